/- Each function computes what its model says. Made by program (dec.py). -/
import Derived.Test.YtepdapiceklppaaSpW1
namespace Go.Proofs.Ytepdapiceklppaa
open Go Go.Ab
set_option maxRecDepth 100000
set_option maxHeartbeats 4000000
set_option linter.unusedVariables false
set_option linter.unusedSimpArgs false
abbrev slices_pdqsortCmpFunc_Span_w__i_mergeSpans_1_r (y : (List Span)) : AV := .tup []
abbrev slices_pdqsortCmpFunc_Span_w__i_mergeSpans_1_n (y : (List Span)) : List Obj' := []
abbrev slices_pdqsortCmpFunc_Span_w__i_mergeSpans_1_o (x : (List Span) × Int × Int × Int) (y : (List Span)) : List Obj' := [.arr 49 2 (List.map Enc.e y)]
noncomputable def slices_pdqsortCmpFunc_Span_w__i_mergeSpans_1_SR (rec_ : (List Span) → Int → Int → Int → Option ((List Span))) : FnSpec := modS [.sl, .rd, .rd, .rd, .fn 203 []] (fun x : (List Span) × Int × Int × Int => [.sc undef, Enc.e x.2.1, Enc.e x.2.2.1, Enc.e x.2.2.2, .agg []]) (fun x : (List Span) × Int × Int × Int => [.arr 49 2 (List.map Enc.e x.1)]) (fun x : (List Span) × Int × Int × Int => rec_ x.1 x.2.1 x.2.2.1 x.2.2.2) slices_pdqsortCmpFunc_Span_w__i_mergeSpans_1_r slices_pdqsortCmpFunc_Span_w__i_mergeSpans_1_n slices_pdqsortCmpFunc_Span_w__i_mergeSpans_1_o
noncomputable def slices_pdqsortCmpFunc_Span_w__i_mergeSpans_1_S : FnSpec := modS [.sl, .rd, .rd, .rd, .fn 203 []] (fun x : (List Span) × Int × Int × Int => [.sc undef, Enc.e x.2.1, Enc.e x.2.2.1, Enc.e x.2.2.2, .agg []]) (fun x : (List Span) × Int × Int × Int => [.arr 49 2 (List.map Enc.e x.1)]) (fun x : (List Span) × Int × Int × Int => slices_pdqsortCmpFunc_Span_w__i_mergeSpans_1 x.1 x.2.1 x.2.2.1 x.2.2.2) slices_pdqsortCmpFunc_Span_w__i_mergeSpans_1_r slices_pdqsortCmpFunc_Span_w__i_mergeSpans_1_n slices_pdqsortCmpFunc_Span_w__i_mergeSpans_1_o
theorem slices_pdqsortCmpFunc_Span_w__i_mergeSpans_1_c {data : List Span} {a : Int} {b : Int} {limit : Int} {y : (List Span)} (h : slices_pdqsortCmpFunc_Span_w__i_mergeSpans_1 data a b limit = some y) : CallOK slices_pdqsortCmpFunc_Span_w__i_mergeSpans_1_S [.sc undef, Enc.e a, Enc.e b, Enc.e limit, .agg []] [.arr 49 2 (List.map Enc.e data)] (slices_pdqsortCmpFunc_Span_w__i_mergeSpans_1_r y) (slices_pdqsortCmpFunc_Span_w__i_mergeSpans_1_n y) (slices_pdqsortCmpFunc_Span_w__i_mergeSpans_1_o (data, a, b, limit) y) :=
  modS_call (by
    rintro ⟨a0, a1, a2, a3⟩ ⟨b0, b1, b2, b3⟩ h hO
    have q0 : a0 = b0 := Enc.inj _ _ (congrArg (fun l => D.sl 2 (obL l 0)) hO)
    have q1 : a1 = b1 := Enc.inj _ _ (congrArg (fun l => List.getD l 1 (.sc undef)) h)
    have q2 : a2 = b2 := Enc.inj _ _ (congrArg (fun l => List.getD l 2 (.sc undef)) h)
    have q3 : a3 = b3 := Enc.inj _ _ (congrArg (fun l => List.getD l 3 (.sc undef)) h)
    subst q0; subst q1; subst q2; subst q3; rfl) (x := (data, a, b, limit)) h
theorem slices_pdqsortCmpFunc_Span_w__i_mergeSpans_1_cR {rec_ : (List Span) → Int → Int → Int → Option ((List Span))} {data : List Span} {a : Int} {b : Int} {limit : Int} {y : (List Span)} (h : rec_ data a b limit = some y) : CallOK (slices_pdqsortCmpFunc_Span_w__i_mergeSpans_1_SR rec_) [.sc undef, Enc.e a, Enc.e b, Enc.e limit, .agg []] [.arr 49 2 (List.map Enc.e data)] (slices_pdqsortCmpFunc_Span_w__i_mergeSpans_1_r y) (slices_pdqsortCmpFunc_Span_w__i_mergeSpans_1_n y) (slices_pdqsortCmpFunc_Span_w__i_mergeSpans_1_o (data, a, b, limit) y) :=
  modS_call (by
    rintro ⟨a0, a1, a2, a3⟩ ⟨b0, b1, b2, b3⟩ h hO
    have q0 : a0 = b0 := Enc.inj _ _ (congrArg (fun l => D.sl 2 (obL l 0)) hO)
    have q1 : a1 = b1 := Enc.inj _ _ (congrArg (fun l => List.getD l 1 (.sc undef)) h)
    have q2 : a2 = b2 := Enc.inj _ _ (congrArg (fun l => List.getD l 2 (.sc undef)) h)
    have q3 : a3 = b3 := Enc.inj _ _ (congrArg (fun l => List.getD l 3 (.sc undef)) h)
    subst q0; subst q1; subst q2; subst q3; rfl) (x := (data, a, b, limit)) h
theorem slices_pdqsortCmpFunc_Span_w__i_mergeSpans_1_okF {rec_ : (List Span) → Int → Int → Int → Option ((List Span))} (hrec : FnOK Try.prog 234 (slices_pdqsortCmpFunc_Span_w__i_mergeSpans_1_SR rec_)) : FnOK Try.prog 234 (slices_pdqsortCmpFunc_Span_w__i_mergeSpans_1_SR (slices_pdqsortCmpFunc_Span_w__i_mergeSpans_1_F rec_)) := by
  have Γok : ∀ f S, lookF f [(234, slices_pdqsortCmpFunc_Span_w__i_mergeSpans_1_SR rec_), (260, slices_insertionSortCmpFunc_Span_w__i_mergeSpans_1_S), (261, slices_heapSortCmpFunc_Span_w__i_mergeSpans_1_S), (263, slices_choosePivotCmpFunc_Span__i_mergeSpans_1_S), (264, slices_reverseRangeCmpFunc_Span_w__i_mergeSpans_1_S), (265, slices_partialInsertionSortCmpFunc_Span_w__i_mergeSpans_1_S), (203, i_mergeSpans_1_S), (266, slices_partitionEqualCmpFunc_Span_w__i_mergeSpans_1_S), (267, slices_partitionCmpFunc_Span_w__i_mergeSpans_1_S), (262, slices_breakPatternsCmpFunc_Span_w__i_mergeSpans_1_S)] = some S → FnOK Try.prog f S := lookF_ok (allF_cons hrec (allF_cons slices_insertionSortCmpFunc_Span_w__i_mergeSpans_1_ok (allF_cons slices_heapSortCmpFunc_Span_w__i_mergeSpans_1_ok (allF_cons slices_choosePivotCmpFunc_Span__i_mergeSpans_1_ok (allF_cons slices_reverseRangeCmpFunc_Span_w__i_mergeSpans_1_ok (allF_cons slices_partialInsertionSortCmpFunc_Span_w__i_mergeSpans_1_ok (allF_cons i_mergeSpans_1_ok (allF_cons slices_partitionEqualCmpFunc_Span_w__i_mergeSpans_1_ok (allF_cons slices_partitionCmpFunc_Span_w__i_mergeSpans_1_ok (allF_cons slices_breakPatternsCmpFunc_Span_w__i_mergeSpans_1_ok allF_nil))))))))))
  have Γlive : Live (fun f => lookF f [(234, slices_pdqsortCmpFunc_Span_w__i_mergeSpans_1_SR rec_), (260, slices_insertionSortCmpFunc_Span_w__i_mergeSpans_1_S), (261, slices_heapSortCmpFunc_Span_w__i_mergeSpans_1_S), (263, slices_choosePivotCmpFunc_Span__i_mergeSpans_1_S), (264, slices_reverseRangeCmpFunc_Span_w__i_mergeSpans_1_S), (265, slices_partialInsertionSortCmpFunc_Span_w__i_mergeSpans_1_S), (203, i_mergeSpans_1_S), (266, slices_partitionEqualCmpFunc_Span_w__i_mergeSpans_1_S), (267, slices_partitionCmpFunc_Span_w__i_mergeSpans_1_S), (262, slices_breakPatternsCmpFunc_Span_w__i_mergeSpans_1_S)]) := lookF_live (allL_cons modS_live (allL_cons modS_live (allL_cons modS_live (allL_cons modS_live (allL_cons modS_live (allL_cons modS_live (allL_cons modS_live (allL_cons modS_live (allL_cons modS_live (allL_cons modS_live allL_nil))))))))))
  refine fnOK_mod ty_ok (fun args w => Try.call234 args w) Try.func234 rfl [] (by rw [Try.results234]) 148 Try.ntmps234 16 rfl (fun _ => by first | exact Nat.zero_le _ | (simp)) ?_
  rintro ⟨data, a, b, limit⟩ y cx hm hL
  have hm : slices_pdqsortCmpFunc_Span_w__i_mergeSpans_1_F rec_ data a b limit = some y := hm
  have hL : cx.L = 1 := hL
  unfold slices_pdqsortCmpFunc_Span_w__i_mergeSpans_1_F at hm
  refine X_reg_seq ty_ok Γok hL [] .nil (by kernel_rfl) ?_
  refine X_reg_seq ty_ok Γok hL [] .nil (by kernel_rfl) ?_
  refine Ok_block ?_
  refine X_loop (n := 148) (step := slices_pdqsortCmpFunc_Span_w__i_mergeSpans_1_L1 rec_) (fun ((a1, b1, limit1, mid, mid1, data1) : Int × Int × Int × Bool × Bool × (List Span)) => (⟨[(0, .own 0), (1, .dat (.sc (.int .i64 a1))), (2, .dat (.sc (.int .i64 b1))), (3, .dat (.sc (.int .i64 limit1))), (4, .fn 203 []), (10, .dat (.sc (.bool mid))), (11, .dat (.sc (.bool mid1)))], [(0, some (.arr 49 2 (List.map Enc.e data1)))], 48⟩ : X)) hm (Wk_J hL ⟨[(0, []), (1, []), (2, []), (3, []), (4, []), (10, []), (11, [])], [(0, 0, [])], [], 48⟩ (by kernel_rfl)) ?_
  rintro ⟨a1, b1, limit1, mid, mid1, data1⟩ r0 hm hb
  rw [slices_pdqsortCmpFunc_Span_w__i_mergeSpans_1_L1] at hm
  refine Ok_block ?_
  refine X_reg_seq ty_ok Γok hL [] .nil (by kernel_rfl) ?_
  refine Ok_seq ?_
  refine X_reg_seq ty_ok Γok hL [] .nil (by kernel_rfl) ?_
  refine X_cond (decide ((w64 (b1 - a1)) ≤ 12)) (by kernel_rfl) (fun hc => ?_) (fun hc => ?_)
  · have hm := it hc hm
    obtain ⟨r, h, hm⟩ := obind hm
    refine X_reg_seq ty_ok Γok hL [(4, .c (slices_insertionSortCmpFunc_Span_w__i_mergeSpans_1_r r) (slices_insertionSortCmpFunc_Span_w__i_mergeSpans_1_n r) (slices_insertionSortCmpFunc_Span_w__i_mergeSpans_1_o (data1, a1, b1) r))] (.cons (slices_insertionSortCmpFunc_Span_w__i_mergeSpans_1_c h) .nil) (by kernel_rfl) ?_
    obtain rfl := some_inj hm
    have hm := congrArg some (hb _ rfl)
    obtain rfl := some_inj hm
    refine Ok_ret ?_
    repeat (first | refine thR ?_ | refine ibR ?_)
    exact X_fin [] [] (by kernel_rfl) trivial
  · have hm := ie hc hm
    refine X_skip ?_
    refine thN ?_
    refine Ok_seq ?_
    refine X_reg_seq ty_ok Γok hL [] .nil (by kernel_rfl) ?_
    refine X_cond (limit1 == 0) (by kernel_rfl) (fun hc1 => ?_) (fun hc1 => ?_)
    · have hm := it hc1 hm
      obtain ⟨r2, h1, hm⟩ := obind hm
      refine X_reg_seq ty_ok Γok hL [(4, .c (slices_heapSortCmpFunc_Span_w__i_mergeSpans_1_r r2) (slices_heapSortCmpFunc_Span_w__i_mergeSpans_1_n r2) (slices_heapSortCmpFunc_Span_w__i_mergeSpans_1_o (data1, a1, b1) r2))] (.cons (slices_heapSortCmpFunc_Span_w__i_mergeSpans_1_c h1) .nil) (by kernel_rfl) ?_
      obtain rfl := some_inj hm
      have hm := congrArg some (hb _ rfl)
      obtain rfl := some_inj hm
      refine Ok_ret ?_
      repeat (first | refine thR ?_ | refine ibR ?_)
      exact X_fin [] [] (by kernel_rfl) trivial
    · have hm := ie hc1 hm
      refine X_skip ?_
      refine thN ?_
      obtain ⟨vv1, hv, hk⟩ := obind hm
      refine X_join (n := 148) (fun ((limit2, data2) : Int × (List Span)) => (⟨[(0, .own 0), (1, .dat (.sc (.int .i64 a1))), (2, .dat (.sc (.int .i64 b1))), (3, .dat (.sc (.int .i64 limit2))), (4, .fn 203 []), (10, .dat (.sc (.bool mid))), (11, .dat (.sc (.bool mid1))), (12, .dat (.sc (.int .i64 (w64 (b1 - a1)))))], [(0, some (.arr 49 2 (List.map Enc.e data2)))], 48⟩ : X)) vv1 ?_ ?_
      · have hm := hv
        refine X_reg_seq ty_ok Γok hL [] .nil (by kernel_rfl) ?_
        refine X_cond (!mid) (by kernel_rfl) (fun hc2 => ?_) (fun hc2 => ?_)
        · have hm := it hc2 hm
          obtain ⟨r4, h2, hm⟩ := obind hm
          refine X_reg_seq ty_ok Γok hL [(4, .c (slices_breakPatternsCmpFunc_Span_w__i_mergeSpans_1_r r4) (slices_breakPatternsCmpFunc_Span_w__i_mergeSpans_1_n r4) (slices_breakPatternsCmpFunc_Span_w__i_mergeSpans_1_o (data1, a1, b1) r4))] (.cons (slices_breakPatternsCmpFunc_Span_w__i_mergeSpans_1_c h2) .nil) (by kernel_rfl) ?_
          refine X_reg ty_ok Γok hL [] .nil (by kernel_rfl) ?_
          obtain rfl := some_inj hm
          exact thN (Wk_J hL ⟨[(0, []), (1, []), (2, []), (3, []), (4, []), (10, []), (11, []), (12, [])], [(0, 0, [])], [], 48⟩ (by kernel_rfl))
        · have hm := ie hc2 hm
          refine X_skip ?_
          obtain rfl := some_inj hm
          exact thN (Wk_J hL ⟨[(0, []), (1, []), (2, []), (3, []), (4, []), (10, []), (11, []), (12, [])], [(0, 0, [])], [], 48⟩ (by kernel_rfl))
      obtain ⟨limit2, data2⟩ := vv1
      have hm := hk
      obtain ⟨r5, h3, hm⟩ := obind hm
      refine X_reg_seq ty_ok Γok hL [(4, .c (slices_choosePivotCmpFunc_Span__i_mergeSpans_1_r r5) (slices_choosePivotCmpFunc_Span__i_mergeSpans_1_n r5) (slices_choosePivotCmpFunc_Span__i_mergeSpans_1_o (data2, a1, b1) r5))] (.cons (slices_choosePivotCmpFunc_Span__i_mergeSpans_1_c h3) .nil) (by kernel_rfl) ?_
      obtain ⟨vv, hv1, hk1⟩ := obind hm
      refine X_join (n := 148) (fun ((leftLen, rightLen, data3) : Int × Int × (List Span)) => (⟨[(0, .own 0), (1, .dat (.sc (.int .i64 a1))), (2, .dat (.sc (.int .i64 b1))), (3, .dat (.sc (.int .i64 limit2))), (4, .fn 203 []), (10, .dat (.sc (.bool mid))), (11, .dat (.sc (.bool mid1))), (12, .dat (.sc (.int .i64 (w64 (b1 - a1))))), (13, .dat (.sc (.int .i64 leftLen))), (14, .dat (.sc (.int .i64 rightLen)))], [(0, some (.arr 49 2 (List.map Enc.e data3)))], 48⟩ : X)) vv ?_ ?_
      · have hm := hv1
        refine X_reg_seq ty_ok Γok hL [] .nil (by kernel_rfl) ?_
        refine X_cond (r5.2 == 2) (by kernel_rfl) (fun hc3 => ?_) (fun hc3 => ?_)
        · have hm := it hc3 hm
          obtain ⟨r6, h4, hm⟩ := obind hm
          refine X_reg_seq ty_ok Γok hL [(4, .c (slices_reverseRangeCmpFunc_Span_w__i_mergeSpans_1_r r6) (slices_reverseRangeCmpFunc_Span_w__i_mergeSpans_1_n r6) (slices_reverseRangeCmpFunc_Span_w__i_mergeSpans_1_o (data2, a1, b1) r6))] (.cons (slices_reverseRangeCmpFunc_Span_w__i_mergeSpans_1_c h4) .nil) (by kernel_rfl) ?_
          refine X_reg_seq ty_ok Γok hL [] .nil (by kernel_rfl) ?_
          refine X_reg ty_ok Γok hL [] .nil (by kernel_rfl) ?_
          obtain rfl := some_inj hm
          exact thN (Wk_J hL ⟨[(0, []), (1, []), (2, []), (3, []), (4, []), (10, []), (11, []), (12, []), (13, []), (14, [])], [(0, 0, [])], [], 48⟩ (by kernel_rfl))
        · have hm := ie hc3 hm
          refine X_skip ?_
          obtain rfl := some_inj hm
          exact thN (Wk_J hL ⟨[(0, []), (1, []), (2, []), (3, []), (4, []), (10, []), (11, []), (12, []), (13, []), (14, [])], [(0, 0, [])], [], 48⟩ (by kernel_rfl))
      obtain ⟨leftLen, rightLen, data3⟩ := vv
      have hm := hk1
      obtain ⟨v2, hv2, hr3, hk2⟩ := flb_t hm
      refine X_joinF (n := 148) (fun (data4 : List Span) => (⟨[(0, .own 0), (1, .dat (.sc (.int .i64 a1))), (2, .dat (.sc (.int .i64 b1))), (3, .dat (.sc (.int .i64 limit2))), (4, .fn 203 []), (10, .dat (.sc (.bool mid))), (11, .dat (.sc (.bool mid1))), (12, .dat (.sc (.int .i64 (w64 (b1 - a1))))), (13, .dat (.sc (.int .i64 leftLen)))], [(0, some (.arr 49 2 (List.map Enc.e data4)))], 48⟩ : X)) v2 ?_ ?_
      · have hm := hv2
        obtain ⟨v, hv3, hk3⟩ := obind hm
        refine X_join (n := 148) (fun (v : Bool) => (⟨[(0, .own 0), (1, .dat (.sc (.int .i64 a1))), (2, .dat (.sc (.int .i64 b1))), (3, .dat (.sc (.int .i64 limit2))), (4, .fn 203 []), (10, .dat (.sc (.bool mid))), (11, .dat (.sc (.bool mid1))), (12, .dat (.sc (.int .i64 (w64 (b1 - a1))))), (13, .dat (.sc (.int .i64 leftLen))), (75, .dat (.sc (.bool v)))], [(0, some (.arr 49 2 (List.map Enc.e data3)))], 48⟩ : X)) v ?_ ?_
        · have hm := hv3
          rcases btf mid with hb1 | hb1
          · have hm := it hb1 hm
            rcases btf mid1 with hb2 | hb2
            · have hm := it hb2 hm
              obtain rfl := some_inj hm
              refine X_reg ty_ok Γok hL [(1, .b true), (4, .b true)] (.cons hb1 (.cons hb2 .nil)) (by kernel_rfl) ?_
              exact thN (Wk_J hL ⟨[(0, []), (1, []), (2, []), (3, []), (4, []), (10, []), (11, []), (12, []), (13, []), (75, [])], [(0, 0, [])], [], 48⟩ (by kernel_rfl))
            · have hm := ie hb2 hm
              obtain rfl := some_inj hm
              refine X_reg ty_ok Γok hL [(1, .b true), (4, .b false)] (.cons hb1 (.cons hb2 .nil)) (by kernel_rfl) ?_
              exact thN (Wk_J hL ⟨[(0, []), (1, []), (2, []), (3, []), (4, []), (10, []), (11, []), (12, []), (13, []), (75, [])], [(0, 0, [])], [], 48⟩ (by kernel_rfl))
          · have hm := ie hb1 hm
            obtain rfl := some_inj hm
            refine X_reg ty_ok Γok hL [(1, .b false)] (.cons hb1 .nil) (by kernel_rfl) ?_
            exact thN (Wk_J hL ⟨[(0, []), (1, []), (2, []), (3, []), (4, []), (10, []), (11, []), (12, []), (13, []), (75, [])], [(0, 0, [])], [], 48⟩ (by kernel_rfl))
        have hm := hk3
        refine X_cond v (by kernel_rfl) (fun hc4 => ?_) (fun hc4 => ?_)
        · have hm := it hc4 hm
          obtain ⟨r7, h5, hm⟩ := obind hm
          refine X_reg_seq ty_ok Γok hL [(4, .c (slices_partialInsertionSortCmpFunc_Span_w__i_mergeSpans_1_r r7) (slices_partialInsertionSortCmpFunc_Span_w__i_mergeSpans_1_n r7) (slices_partialInsertionSortCmpFunc_Span_w__i_mergeSpans_1_o (data3, a1, b1) r7))] (.cons (slices_partialInsertionSortCmpFunc_Span_w__i_mergeSpans_1_c h5) .nil) (by kernel_rfl) ?_
          refine X_cond r7.1 (by kernel_rfl) (fun hc5 => ?_) (fun hc5 => ?_)
          · have hm := it hc5 hm
            obtain rfl := some_inj hm
            have hm := congrArg some (hr3 _ rfl)
            obtain rfl := some_inj hm
            have hm := congrArg some (hb _ rfl)
            obtain rfl := some_inj hm
            refine Ok_ret ?_
            repeat (first | refine thR ?_ | refine ibR ?_)
            exact X_fin [] [] (by kernel_rfl) trivial
          · have hm := ie hc5 hm
            refine X_skip ?_
            obtain rfl := some_inj hm
            exact thN ⟨_, rfl, Wk_J hL ⟨[(0, []), (1, []), (2, []), (3, []), (4, []), (10, []), (11, []), (12, []), (13, [])], [(0, 0, [])], [], 48⟩ (by kernel_rfl)⟩
        · have hm := ie hc4 hm
          refine X_skip ?_
          obtain rfl := some_inj hm
          exact thN ⟨_, rfl, Wk_J hL ⟨[(0, []), (1, []), (2, []), (3, []), (4, []), (10, []), (11, []), (12, []), (13, [])], [(0, 0, [])], [], 48⟩ (by kernel_rfl)⟩
      rintro data4 hu
      have hm := hk2 _ hu
      refine Ok_seq ?_
      obtain ⟨v1, hv4, hk4⟩ := obind hm
      refine X_join (n := 148) (fun (v1 : Bool) => (⟨[(0, .own 0), (1, .dat (.sc (.int .i64 a1))), (2, .dat (.sc (.int .i64 b1))), (3, .dat (.sc (.int .i64 limit2))), (4, .fn 203 []), (10, .dat (.sc (.bool mid))), (11, .dat (.sc (.bool mid1))), (12, .dat (.sc (.int .i64 (w64 (b1 - a1))))), (13, .dat (.sc (.int .i64 leftLen))), (97, .dat (.sc (.bool v1)))], [(0, some (.arr 49 2 (List.map Enc.e data4)))], 48⟩ : X)) v1 ?_ ?_
      · have hm := hv4
        rcases btf (decide (0 < a1)) with hb3 | hb3
        · have hm := it hb3 hm
          obtain ⟨e6, h9, hm⟩ := obind hm
          obtain ⟨e7, h10, hm⟩ := obind hm
          obtain ⟨r11, h11, hm⟩ := obind hm
          obtain rfl := some_inj hm
          refine X_draw mixed ty_ok Γok Γlive [(13, [])] (by kernel_rfl) [(2, .b true), (7, .d (Enc.e e6)), (8, .d (Enc.e e6)), (11, .d (Enc.e e7)), (12, .d (Enc.e e7)), (13, .c (i_mergeSpans_1_r r11) (i_mergeSpans_1_n r11) (i_mergeSpans_1_o (e6, e7) r11))] (.cons hb3 (.cons (idx_m (f := Enc.e) h9) (.cons (idx_m2 (f := Enc.e) h9) (.cons (idx_m (f := Enc.e) h10) (.cons (idx_m2 (f := Enc.e) h10) (.cons (i_mergeSpans_1_c h11) .nil)))))) (by kernel_rfl) ?_
          exact thN (Wk_J hL ⟨[(0, []), (1, []), (2, []), (3, []), (4, []), (10, []), (11, []), (12, []), (13, []), (97, [])], [(0, 0, [])], [], 48⟩ (by kernel_rfl))
        · have hm := ie hb3 hm
          obtain rfl := some_inj hm
          refine X_draw mixed ty_ok Γok Γlive [(13, [])] (by kernel_rfl) [(2, .b false)] (.cons hb3 .nil) (by kernel_rfl) ?_
          exact thN (Wk_J hL ⟨[(0, []), (1, []), (2, []), (3, []), (4, []), (10, []), (11, []), (12, []), (13, []), (97, [])], [(0, 0, [])], [], 48⟩ (by kernel_rfl))
      have hm := hk4
      refine X_cond v1 (by kernel_rfl) (fun hc6 => ?_) (fun hc6 => ?_)
      · have hm := it hc6 hm
        obtain ⟨r12, h12, hm⟩ := obind hm
        refine X_reg_seq ty_ok Γok hL [(5, .c (slices_partitionEqualCmpFunc_Span_w__i_mergeSpans_1_r r12) (slices_partitionEqualCmpFunc_Span_w__i_mergeSpans_1_n r12) (slices_partitionEqualCmpFunc_Span_w__i_mergeSpans_1_o (data4, a1, b1, leftLen) r12))] (.cons (slices_partitionEqualCmpFunc_Span_w__i_mergeSpans_1_c h12) .nil) (by kernel_rfl) ?_
        refine X_reg_seq ty_ok Γok hL [] .nil (by kernel_rfl) ?_
        refine Ok_exit ?_
        refine thE ?_
        refine ibE ?_
        obtain rfl := some_inj hm
        exact thN ⟨_, rfl, Wk_J hL ⟨[(0, []), (1, []), (2, []), (3, []), (4, []), (10, []), (11, [])], [(0, 0, [])], [], 48⟩ (by kernel_rfl)⟩
      · have hm := ie hc6 hm
        refine X_skip ?_
        refine thN ?_
        obtain ⟨r13, h13, hm⟩ := obind hm
        refine X_reg_seq ty_ok Γok hL [(5, .c (slices_partitionCmpFunc_Span_w__i_mergeSpans_1_r r13) (slices_partitionCmpFunc_Span_w__i_mergeSpans_1_n r13) (slices_partitionCmpFunc_Span_w__i_mergeSpans_1_o (data4, a1, b1, leftLen) r13))] (.cons (slices_partitionCmpFunc_Span_w__i_mergeSpans_1_c h13) .nil) (by kernel_rfl) ?_
        refine X_reg_seq ty_ok Γok hL [] .nil (by kernel_rfl) ?_
        refine X_reg_seq ty_ok Γok hL [] .nil (by kernel_rfl) ?_
        obtain ⟨u, h14, hm⟩ := obind hm
        refine X_reg_seq ty_ok Γok hL [] (.cons (chk_t h14) .nil) (by kernel_rfl) ?_
        refine X_reg_seq ty_ok Γok hL [] .nil (by kernel_rfl) ?_
        refine X_cond (decide ((w64 (r13.1 - a1)) < (w64 (b1 - r13.1)))) (by kernel_rfl) (fun hc7 => ?_) (fun hc7 => ?_)
        · have hm := it hc7 hm
          refine X_reg_seq ty_ok Γok hL [] .nil (by kernel_rfl) ?_
          obtain ⟨r14, h15, hm⟩ := obind hm
          refine X_reg_seq ty_ok Γok hL [(5, .c (slices_pdqsortCmpFunc_Span_w__i_mergeSpans_1_r r14) (slices_pdqsortCmpFunc_Span_w__i_mergeSpans_1_n r14) (slices_pdqsortCmpFunc_Span_w__i_mergeSpans_1_o (r13.2.2, a1, r13.1, limit2) r14))] (.cons (slices_pdqsortCmpFunc_Span_w__i_mergeSpans_1_cR h15) .nil) (by kernel_rfl) ?_
          refine X_reg ty_ok Γok hL [] .nil (by kernel_rfl) ?_
          refine ibN ?_
          obtain rfl := some_inj hm
          exact thN ⟨_, rfl, Wk_J hL ⟨[(0, []), (1, []), (2, []), (3, []), (4, []), (10, []), (11, [])], [(0, 0, [])], [], 48⟩ (by kernel_rfl)⟩
        · have hm := ie hc7 hm
          refine X_reg_seq ty_ok Γok hL [] .nil (by kernel_rfl) ?_
          obtain ⟨r15, h16, hm⟩ := obind hm
          refine X_reg_seq ty_ok Γok hL [(6, .c (slices_pdqsortCmpFunc_Span_w__i_mergeSpans_1_r r15) (slices_pdqsortCmpFunc_Span_w__i_mergeSpans_1_n r15) (slices_pdqsortCmpFunc_Span_w__i_mergeSpans_1_o (r13.2.2, (w64 (r13.1 + 1)), b1, limit2) r15))] (.cons (slices_pdqsortCmpFunc_Span_w__i_mergeSpans_1_cR h16) .nil) (by kernel_rfl) ?_
          refine X_reg ty_ok Γok hL [] .nil (by kernel_rfl) ?_
          refine ibN ?_
          obtain rfl := some_inj hm
          exact thN ⟨_, rfl, Wk_J hL ⟨[(0, []), (1, []), (2, []), (3, []), (4, []), (10, []), (11, [])], [(0, 0, [])], [], 48⟩ (by kernel_rfl)⟩
theorem slices_pdqsortCmpFunc_Span_w__i_mergeSpans_1_okn : ∀ k, FnOK Try.prog 234 (slices_pdqsortCmpFunc_Span_w__i_mergeSpans_1_SR (slices_pdqsortCmpFunc_Span_w__i_mergeSpans_1_k k))
  | 0 => ⟨fun args w => Try.call234 args w, fun vs w F ds obs κ hp => by obtain ⟨x, y, _, _, h⟩ := hp; cases h⟩
  | k + 1 => slices_pdqsortCmpFunc_Span_w__i_mergeSpans_1_okF (slices_pdqsortCmpFunc_Span_w__i_mergeSpans_1_okn k)
theorem slices_pdqsortCmpFunc_Span_w__i_mergeSpans_1_ok : FnOK Try.prog 234 slices_pdqsortCmpFunc_Span_w__i_mergeSpans_1_S := slices_pdqsortCmpFunc_Span_w__i_mergeSpans_1_okn 4294967296
abbrev slices_SortFunc_Span_w__i_mergeSpans_1_r (y : (List Span)) : AV := .tup []
abbrev slices_SortFunc_Span_w__i_mergeSpans_1_n (y : (List Span)) : List Obj' := []
abbrev slices_SortFunc_Span_w__i_mergeSpans_1_o (x : (List Span)) (y : (List Span)) : List Obj' := [.arr 49 2 (List.map Enc.e y)]
noncomputable def slices_SortFunc_Span_w__i_mergeSpans_1_S : FnSpec := modS [.sl, .fn 203 []] (fun x : (List Span) => [.sc undef, .agg []]) (fun x : (List Span) => [.arr 49 2 (List.map Enc.e x)]) (fun x : (List Span) => slices_SortFunc_Span_w__i_mergeSpans_1 x) slices_SortFunc_Span_w__i_mergeSpans_1_r slices_SortFunc_Span_w__i_mergeSpans_1_n slices_SortFunc_Span_w__i_mergeSpans_1_o
theorem slices_SortFunc_Span_w__i_mergeSpans_1_c {x : List Span} {y : (List Span)} (h : slices_SortFunc_Span_w__i_mergeSpans_1 x = some y) : CallOK slices_SortFunc_Span_w__i_mergeSpans_1_S [.sc undef, .agg []] [.arr 49 2 (List.map Enc.e x)] (slices_SortFunc_Span_w__i_mergeSpans_1_r y) (slices_SortFunc_Span_w__i_mergeSpans_1_n y) (slices_SortFunc_Span_w__i_mergeSpans_1_o x y) :=
  modS_call (by
    rintro a0 b0 h hO
    have q0 : a0 = b0 := Enc.inj _ _ (congrArg (fun l => D.sl 2 (obL l 0)) hO)
    subst q0; rfl) (x := x) h
theorem slices_SortFunc_Span_w__i_mergeSpans_1_ok : FnOK Try.prog 202 slices_SortFunc_Span_w__i_mergeSpans_1_S := by
  have Γok : ∀ f S, lookF f [(229, math_bits_Len_S), (234, slices_pdqsortCmpFunc_Span_w__i_mergeSpans_1_S)] = some S → FnOK Try.prog f S := lookF_ok (allF_cons math_bits_Len_ok (allF_cons slices_pdqsortCmpFunc_Span_w__i_mergeSpans_1_ok allF_nil))
  have Γlive : Live (fun f => lookF f [(229, math_bits_Len_S), (234, slices_pdqsortCmpFunc_Span_w__i_mergeSpans_1_S)]) := lookF_live (allL_cons modS_live (allL_cons modS_live allL_nil))
  refine fnOK_mod ty_ok (fun args w => Try.call202 args w) Try.func202 rfl [] (by rw [Try.results202]) 14 Try.ntmps202 16 rfl (fun _ => by first | exact Nat.zero_le _ | (simp)) ?_
  rintro x y cx hm hL
  have hm : slices_SortFunc_Span_w__i_mergeSpans_1 x = some y := hm
  have hL : cx.L = 1 := hL
  unfold slices_SortFunc_Span_w__i_mergeSpans_1 at hm
  refine X_reg_seq ty_ok Γok hL [(1, .n (x.length : Int))] (.cons (len_m Enc.e x) .nil) (by kernel_rfl) ?_
  obtain ⟨r, h, hm⟩ := obind hm
  obtain ⟨r1, h1, hm⟩ := obind hm
  refine X_reg ty_ok Γok hL [(4, .c (math_bits_Len_r r) (math_bits_Len_n r) (math_bits_Len_o (⟨(IntKind.u64.wrap ((x.length : Int)))⟩ : IK .u64) r)), (6, .c (slices_pdqsortCmpFunc_Span_w__i_mergeSpans_1_r r1) (slices_pdqsortCmpFunc_Span_w__i_mergeSpans_1_n r1) (slices_pdqsortCmpFunc_Span_w__i_mergeSpans_1_o (x, 0, (x.length : Int), r) r1))] (.cons (math_bits_Len_c h) (.cons (slices_pdqsortCmpFunc_Span_w__i_mergeSpans_1_c h1) .nil)) (by kernel_rfl) ?_
  obtain rfl := some_inj hm
  exact X_fin [] [] (by kernel_rfl) trivial
abbrev i_mergeSpans_r (y : (List Span)) : AV := .own 0
abbrev i_mergeSpans_n (y : (List Span)) : List Obj' := [.arr 49 2 (List.map Enc.e y)]
abbrev i_mergeSpans_o (x : (List Span)) (y : (List Span)) : List Obj' := []
noncomputable def i_mergeSpans_S : FnSpec := modS [.rd] (fun x : (List Span) => [Enc.e x]) (fun x : (List Span) => []) (fun x : (List Span) => i_mergeSpans x) i_mergeSpans_r i_mergeSpans_n i_mergeSpans_o
theorem i_mergeSpans_c {list : List Span} {y : (List Span)} (h : i_mergeSpans list = some y) : CallOK i_mergeSpans_S [Enc.e list] [] (i_mergeSpans_r y) (i_mergeSpans_n y) (i_mergeSpans_o list y) :=
  modS_call (by
    rintro a0 b0 h hO
    have q0 : a0 = b0 := Enc.inj _ _ (congrArg (fun l => List.getD l 0 (.sc undef)) h)
    subst q0; rfl) (x := list) h
theorem i_mergeSpans_ok : FnOK Try.prog 109 i_mergeSpans_S := by
  have Γok : ∀ f S, lookF f [(188, slices_Clone_Span_S), (202, slices_SortFunc_Span_w__i_mergeSpans_1_S)] = some S → FnOK Try.prog f S := lookF_ok (allF_cons slices_Clone_Span_ok (allF_cons slices_SortFunc_Span_w__i_mergeSpans_1_ok allF_nil))
  have Γlive : Live (fun f => lookF f [(188, slices_Clone_Span_S), (202, slices_SortFunc_Span_w__i_mergeSpans_1_S)]) := lookF_live (allL_cons modS_live (allL_cons modS_live allL_nil))
  refine fnOK_mod ty_ok (fun args w => Try.call109 args w) Try.func109 rfl [.tmp 2] (by rw [Try.results109]) 58 Try.ntmps109 16 rfl (fun _ => by first | exact Nat.zero_le _ | (simp)) ?_
  rintro list y cx hm hL
  have hm : i_mergeSpans list = some y := hm
  have hL : cx.L = 0 := hL
  unfold i_mergeSpans at hm
  refine X_reg_seq ty_ok Γok hL [] .nil (by kernel_rfl) ?_
  obtain ⟨r, h, hm⟩ := obind hm
  refine X_reg_seq ty_ok Γok hL [(1, .c (slices_Clone_Span_r r) (slices_Clone_Span_n r) (slices_Clone_Span_o list r))] (.cons (slices_Clone_Span_c h) .nil) (by kernel_rfl) ?_
  obtain ⟨r1, h1, hm⟩ := obind hm
  refine X_reg_seq ty_ok Γok hL [(1, .c (slices_SortFunc_Span_w__i_mergeSpans_1_r r1) (slices_SortFunc_Span_w__i_mergeSpans_1_n r1) (slices_SortFunc_Span_w__i_mergeSpans_1_o r r1))] (.cons (slices_SortFunc_Span_w__i_mergeSpans_1_c h1) .nil) (by kernel_rfl) ?_
  refine X_reg_seq ty_ok Γok hL [] .nil (by kernel_rfl) ?_
  refine Ok_seq ?_
  refine X_reg_seq ty_ok Γok hL [(1, .n (r1.length : Int))] (.cons (len_m Enc.e r1) .nil) (by kernel_rfl) ?_
  obtain ⟨v4, hv2, hk2⟩ := obind hm
  refine X_tail (n := 58) (fun (v4 : List Span) => (⟨[(4, .own 16)], [(16, some (.arr 49 2 (List.map Enc.e v4)))], 48⟩ : X)) v4 ?_ ?_
  · have hm := hv2
    refine Ok_block ?_
    refine X_loop (n := 58) (step := i_mergeSpans_L1 r1) (fun ((v, v1) : Int × (List Span)) => (⟨[(4, .own 16), (12, .own 32), (13, .dat (.sc (.int .i64 (r1.length : Int)))), (14, .dat (.sc (.int .i64 v)))], [(16, some (.arr 49 2 (List.map Enc.e v1))), (32, some (.arr 49 2 (List.map Enc.e r1)))], 64⟩ : X)) hm (Wk_J hL ⟨[(4, [.o 16]), (12, []), (13, []), (14, [])], [(32, 48, [])], [(16, 49, 2, [])], 64⟩ (by kernel_rfl)) ?_
    rintro ⟨v, v1⟩ r0 hm hb
    rw [i_mergeSpans_L1] at hm
    refine X_reg_seq ty_ok Γok hL [] .nil (by kernel_rfl) ?_
    refine Ok_seq ?_
    refine X_cond (decide (v < (r1.length : Int))) (by kernel_rfl) (fun hc => ?_) (fun hc => ?_)
    · have hm := it hc hm
      refine X_skip ?_
      refine thN ?_
      obtain ⟨v2, hv, hk⟩ := obind hm
      refine X_join (n := 58) (fun (v2 : List Span) => (⟨[(4, .own 16), (12, .own 32), (13, .dat (.sc (.int .i64 (r1.length : Int)))), (14, .dat (.sc (.int .i64 v)))], [(16, some (.arr 49 2 (List.map Enc.e v2))), (32, some (.arr 49 2 (List.map Enc.e r1)))], 64⟩ : X)) v2 ?_ ?_
      · have hm := hv
        refine Ok_block ?_
        obtain ⟨e, h2, hm⟩ := obind hm
        refine X_reg_seq ty_ok Γok hL [(0, .d (Enc.e e)), (1, .d (Enc.e e))] (.cons (idx_m (f := Enc.e) h2) (.cons (idx_m2 (f := Enc.e) h2) .nil)) (by kernel_rfl) ?_
        refine Ok_seq ?_
        refine X_reg_seq ty_ok Γok hL [] .nil (by kernel_rfl) ?_
        refine X_cond (e.From == e.To) (by kernel_rfl) (fun hc1 => ?_) (fun hc1 => ?_)
        · have hm := it hc1 hm
          refine Ok_exit ?_
          refine thE ?_
          refine ibE ?_
          obtain rfl := some_inj hm
          exact thN (Wk_J hL ⟨[(4, []), (12, []), (13, []), (14, [])], [(16, 16, []), (32, 32, [])], [], 64⟩ (by kernel_rfl))
        · have hm := ie hc1 hm
          refine X_skip ?_
          refine thN ?_
          refine X_reg_seq ty_ok Γok hL [(1, .n (v1.length : Int))] (.cons (len_m Enc.e v1) .nil) (by kernel_rfl) ?_
          obtain ⟨v3, hv1, hk1⟩ := obind hm
          refine X_join (n := 58) (fun (v3 : Bool) => (⟨[(4, .own 16), (6, .ref 32 0), (7, .dat (.sc (.int .i64 (v1.length : Int)))), (12, .own 48), (13, .dat (.sc (.int .i64 (r1.length : Int)))), (14, .dat (.sc (.int .i64 v))), (37, .dat (.sc (.bool v3)))], [(16, some (.arr 49 2 (List.map Enc.e v1))), (32, some (.box [.dat (.sc (.int .i64 e.From)), .dat (.sc (.int .i64 e.To))])), (48, some (.arr 49 2 (List.map Enc.e r1)))], 80⟩ : X)) v3 ?_ ?_
          · have hm := hv1
            rcases btf (decide (0 < (v1.length : Int))) with hb1 | hb1
            · have hm := it hb1 hm
              obtain ⟨e2, h4, hm⟩ := obind hm
              obtain rfl := some_inj hm
              refine X_draw mixed ty_ok Γok Γlive [] (by kernel_rfl) [(2, .b true), (8, .d (Enc.e e2)), (10, .d (Enc.e e2))] (.cons hb1 (.cons (idx_m (f := Enc.e) h4) (.cons (idx_m2 (f := Enc.e) h4) .nil))) (by kernel_rfl) ?_
              exact thN (Wk_J hL ⟨[(4, []), (6, []), (7, []), (12, []), (13, []), (14, []), (37, [])], [(16, 16, []), (32, 112, []), (48, 32, [])], [], 80⟩ (by kernel_rfl))
            · have hm := ie hb1 hm
              obtain rfl := some_inj hm
              refine X_draw mixed ty_ok Γok Γlive [] (by kernel_rfl) [(2, .b false)] (.cons hb1 .nil) (by kernel_rfl) ?_
              exact thN (Wk_J hL ⟨[(4, []), (6, []), (7, []), (12, []), (13, []), (14, []), (37, [])], [(16, 16, []), (32, 112, []), (48, 32, [])], [], 80⟩ (by kernel_rfl))
          have hm := hk1
          refine X_cond v3 (by kernel_rfl) (fun hc2 => ?_) (fun hc2 => ?_)
          · have hm := it hc2 hm
            obtain ⟨e5, h7, hm⟩ := obind hm
            obtain ⟨e6, h8, hm⟩ := obind hm
            refine X_draw mixed ty_ok Γok Γlive [(14, [16])] (by kernel_rfl) [(6, .d (Enc.e e5)), (8, .d (Enc.e e5)), (12, .d (Enc.e e6)), (14, .sd (Enc.e e6) (List.map Enc.e (v1.set (w64 ((v1.length : Int) - 1)).toNat (⟨e6.From, (if e.To > e5.To then e.To else e5.To)⟩ : Span))))] (.cons (idx_m (f := Enc.e) h7) (.cons (idx_m2 (f := Enc.e) h7) (.cons (idx_m (f := Enc.e) h8) (.cons (idx_m2 (f := Enc.e) h8) (.cons (set_m Enc.e v1 (w64 ((v1.length : Int) - 1)).toNat (⟨e6.From, (if e.To > e5.To then e.To else e5.To)⟩ : Span)) .nil))))) (by kernel_rfl) ?_
            refine ibN ?_
            obtain rfl := some_inj hm
            exact thN (Wk_J hL ⟨[(4, []), (12, []), (13, []), (14, [])], [(16, 16, []), (32, 48, [])], [], 64⟩ (by kernel_rfl))
          · have hm := ie hc2 hm
            obtain ⟨u, h9, hm⟩ := obind hm
            refine X_reg ty_ok Γok hL [(3, .l (List.map Enc.e (v1 ++ ([e] : List Span))))] (.cons (app_p (f := Enc.e) (g := Enc.e) (l := v1) (r := ([e] : List Span)) (b := 16) (chk_t h9) rfl) (.cons (app_m Enc.e v1 ([e] : List Span)) .nil)) (by kernel_rfl) ?_
            refine ibN ?_
            obtain rfl := some_inj hm
            exact thN (Wk_J hL ⟨[(4, []), (12, []), (13, []), (14, [])], [(16, 128, []), (32, 48, [])], [], 64⟩ (by kernel_rfl))
      have hm := hk
      refine X_reg ty_ok Γok hL [] .nil (by kernel_rfl) ?_
      obtain rfl := some_inj hm
      exact thN ⟨_, rfl, Wk_J hL ⟨[(4, []), (12, []), (13, []), (14, [])], [(16, 16, []), (32, 32, [])], [], 64⟩ (by kernel_rfl)⟩
    · have hm := ie hc hm
      obtain rfl := some_inj hm
      obtain rfl := hb _ rfl
      refine Ok_exit ?_
      refine thE ?_
      refine thE ?_
      refine ibE ?_
      exact thN (Wk_J hL ⟨[(4, [])], [(16, 16, [])], [], 48⟩ (by kernel_rfl))
  intro s hw
  have hm := hk2
  refine thN ?_
  refine Ok_weak hw ?_
  refine X_reg_seq ty_ok Γok hL [] .nil (by kernel_rfl) ?_
  obtain rfl := some_inj hm
  refine Ok_ret ?_
  repeat (first | refine thR ?_ | refine ibR ?_)
  exact X_fin [16] [] (by kernel_rfl) trivial
abbrev i_FreeSpans_r (y : (List Span) × Bool) : AV := .tup [.dat (Enc.e y.1), .dat (Enc.e y.2)]
abbrev i_FreeSpans_n (y : (List Span) × Bool) : List Obj' := []
abbrev i_FreeSpans_o (x : (List Span) × Span) (y : (List Span) × Bool) : List Obj' := []
noncomputable def i_FreeSpans_S : FnSpec := modS [.rd, .rd] (fun x : (List Span) × Span => [Enc.e x.1, Enc.e x.2]) (fun x : (List Span) × Span => []) (fun x : (List Span) × Span => i_FreeSpans x.1 x.2) i_FreeSpans_r i_FreeSpans_n i_FreeSpans_o
theorem i_FreeSpans_c {list : List Span} {within : Span} {y : (List Span) × Bool} (h : i_FreeSpans list within = some y) : CallOK i_FreeSpans_S [Enc.e list, Enc.e within] [] (i_FreeSpans_r y) (i_FreeSpans_n y) (i_FreeSpans_o (list, within) y) :=
  modS_call (by
    rintro ⟨a0, a1⟩ ⟨b0, b1⟩ h hO
    have q0 : a0 = b0 := Enc.inj _ _ (congrArg (fun l => List.getD l 0 (.sc undef)) h)
    have q1 : a1 = b1 := Enc.inj _ _ (congrArg (fun l => List.getD l 1 (.sc undef)) h)
    subst q0; subst q1; rfl) (x := (list, within)) h
theorem i_FreeSpans_ok : FnOK Try.prog 26 i_FreeSpans_S := by
  have Γok : ∀ f S, lookF f [(95, i_areSpans_S), (108, i_isSpan_S), (109, i_mergeSpans_S)] = some S → FnOK Try.prog f S := lookF_ok (allF_cons i_areSpans_ok (allF_cons i_isSpan_ok (allF_cons i_mergeSpans_ok allF_nil)))
  have Γlive : Live (fun f => lookF f [(95, i_areSpans_S), (108, i_isSpan_S), (109, i_mergeSpans_S)]) := lookF_live (allL_cons modS_live (allL_cons modS_live (allL_cons modS_live allL_nil)))
  refine fnOK_mod ty_ok (fun args w => Try.call26 args w) Try.func26 rfl [.tmp 4, .tmp 5] (by rw [Try.results26]) 55 Try.ntmps26 16 rfl (fun _ => by first | exact Nat.zero_le _ | (simp)) ?_
  rintro ⟨list, within⟩ y cx hm hL
  have hm : i_FreeSpans list within = some y := hm
  have hL : cx.L = 0 := hL
  unfold i_FreeSpans at hm
  refine X_reg_seq ty_ok Γok hL [] .nil (by kernel_rfl) ?_
  refine Ok_seq ?_
  obtain ⟨r, h, hm⟩ := obind hm
  obtain ⟨v, hv, hk⟩ := obind hm
  refine X_join (n := 55) (fun (v : Bool) => (⟨[(0, .dat (Enc.e list)), (3, .ref 16 0), (18, .dat (.sc (.bool v)))], [(16, some (.box [.dat (.sc (.int .i64 within.From)), .dat (.sc (.int .i64 within.To))]))], 48⟩ : X)) v ?_ ?_
  · have hm := hv
    rcases btf (!r) with hb | hb
    · have hm := it hb hm
      obtain rfl := some_inj hm
      refine X_reg ty_ok Γok hL [(1, .c (i_areSpans_r r) (i_areSpans_n r) (i_areSpans_o list r)), (3, .b true)] (.cons (i_areSpans_c h) (.cons hb .nil)) (by kernel_rfl) ?_
      exact thN (Wk_J hL ⟨[(0, []), (3, []), (18, [])], [(16, 16, [])], [], 48⟩ (by kernel_rfl))
    · have hm := ie hb hm
      obtain ⟨r1, h1, hm⟩ := obind hm
      obtain rfl := some_inj hm
      refine X_reg ty_ok Γok hL [(1, .c (i_areSpans_r r) (i_areSpans_n r) (i_areSpans_o list r)), (3, .b false), (5, .c (i_isSpan_r r1) (i_isSpan_n r1) (i_isSpan_o within r1))] (.cons (i_areSpans_c h) (.cons hb (.cons (i_isSpan_c h1) .nil))) (by kernel_rfl) ?_
      exact thN (Wk_J hL ⟨[(0, []), (3, []), (18, [])], [(16, 16, [])], [], 48⟩ (by kernel_rfl))
  have hm := hk
  refine X_cond v (by kernel_rfl) (fun hc => ?_) (fun hc => ?_)
  · have hm := it hc hm
    refine X_reg_seq ty_ok Γok hL [] .nil (by kernel_rfl) ?_
    obtain rfl := some_inj hm
    refine Ok_ret ?_
    repeat (first | refine thR ?_ | refine ibR ?_)
    exact X_fin [] [[.z 2]] (by kernel_rfl) trivial
  · have hm := ie hc hm
    refine X_skip ?_
    refine thN ?_
    refine X_reg_seq ty_ok Γok hL [] .nil (by kernel_rfl) ?_
    refine X_reg_seq ty_ok Γok hL [] .nil (by kernel_rfl) ?_
    refine Ok_seq ?_
    obtain ⟨r3, h4, hm⟩ := obind hm
    obtain ⟨u1, h5, hm⟩ := obind hm
    refine X_draw_seq mixed ty_ok Γok Γlive [(8, [128, 224])] (by kernel_rfl) [(1, .c (i_mergeSpans_r r3) (i_mergeSpans_n r3) (i_mergeSpans_o list r3)), (8, .l (List.map Enc.e (r3 ++ ([(⟨within.To, within.To⟩ : Span)] : List Span)))), (9, .n ((r3 ++ ([(⟨within.To, within.To⟩ : Span)] : List Span)).length : Int))] (.cons (i_mergeSpans_c h4) (.cons (app_p (f := Enc.e) (g := Enc.e) (l := r3) (r := ([(⟨within.To, within.To⟩ : Span)] : List Span)) (b := 16) (chk_t h5) rfl) (.cons (app_m Enc.e r3 ([(⟨within.To, within.To⟩ : Span)] : List Span)) (.cons (len_m Enc.e (r3 ++ ([(⟨within.To, within.To⟩ : Span)] : List Span))) .nil)))) (by kernel_rfl) ?_
    obtain ⟨v4, hv2, hk2⟩ := obind hm
    refine X_tail (n := 55) (fun (v4 : List Span) => (⟨[(6, .own 16)], [(16, some (.arr 49 2 (List.map Enc.e v4)))], 48⟩ : X)) v4 ?_ ?_
    · have hm := hv2
      refine Ok_block ?_
      refine X_loop (n := 55) (step := i_FreeSpans_L1 within r3) (fun ((s, v1, v2) : Int × Int × (List Span)) => (⟨[(3, .ref 16 0), (6, .own 32), (7, .dat (.sc (.int .i64 s))), (29, .own 48), (30, .dat (.sc (.int .i64 ((r3 ++ ([(⟨within.To, within.To⟩ : Span)] : List Span)).length : Int)))), (31, .dat (.sc (.int .i64 v1)))], [(16, some (.box [.dat (.sc (.int .i64 within.From)), .dat (.sc (.int .i64 within.To))])), (32, some (.arr 49 2 (List.map Enc.e v2))), (48, some (.arr 49 2 (List.map Enc.e (r3 ++ ([(⟨within.To, within.To⟩ : Span)] : List Span)))))], 80⟩ : X)) hm (Wk_J hL ⟨[(3, []), (6, [.o 32]), (7, []), (29, []), (30, []), (31, [])], [(16, 16, []), (48, 240, [])], [(32, 49, 2, [])], 80⟩ (by kernel_rfl)) ?_
      rintro ⟨s, v1, v2⟩ r0 hm hb1
      rw [i_FreeSpans_L1] at hm
      refine X_reg_seq ty_ok Γok hL [] .nil (by kernel_rfl) ?_
      refine Ok_seq ?_
      refine X_cond (decide (v1 < ((r3 ++ ([(⟨within.To, within.To⟩ : Span)] : List Span)).length : Int))) (by kernel_rfl) (fun hc1 => ?_) (fun hc1 => ?_)
      · have hm := it hc1 hm
        refine X_skip ?_
        refine thN ?_
        refine Ok_seq ?_
        refine Ok_block ?_
        obtain ⟨e, h6, hm⟩ := obind hm
        refine X_reg_seq ty_ok Γok hL [(0, .d (Enc.e e)), (1, .d (Enc.e e))] (.cons (idx_m (f := Enc.e) h6) (.cons (idx_m2 (f := Enc.e) h6) .nil)) (by kernel_rfl) ?_
        obtain ⟨v3, hv1, hk1⟩ := obind hm
        refine X_join (n := 55) (fun (v3 : List Span) => (⟨[(3, .ref 16 0), (6, .own 32), (7, .dat (.sc (.int .i64 s))), (9, .ref 48 0), (29, .own 64), (30, .dat (.sc (.int .i64 ((r3 ++ ([(⟨within.To, within.To⟩ : Span)] : List Span)).length : Int)))), (31, .dat (.sc (.int .i64 v1)))], [(16, some (.box [.dat (.sc (.int .i64 within.From)), .dat (.sc (.int .i64 within.To))])), (32, some (.arr 49 2 (List.map Enc.e v3))), (48, some (.box [.dat (.sc (.int .i64 e.From)), .dat (.sc (.int .i64 e.To))])), (64, some (.arr 49 2 (List.map Enc.e (r3 ++ ([(⟨within.To, within.To⟩ : Span)] : List Span)))))], 96⟩ : X)) v3 ?_ ?_
        · have hm := hv1
          refine X_reg_seq ty_ok Γok hL [] .nil (by kernel_rfl) ?_
          refine X_reg_seq ty_ok Γok hL [] .nil (by kernel_rfl) ?_
          refine X_cond (decide (s < (if within.To < e.From then within.To else e.From))) (by kernel_rfl) (fun hc2 => ?_) (fun hc2 => ?_)
          · have hm := it hc2 hm
            obtain ⟨u2, h7, hm⟩ := obind hm
            refine X_reg ty_ok Γok hL [(5, .l (List.map Enc.e (v2 ++ ([(⟨s, (if within.To < e.From then within.To else e.From)⟩ : Span)] : List Span))))] (.cons (app_p (f := Enc.e) (g := Enc.e) (l := v2) (r := ([(⟨s, (if within.To < e.From then within.To else e.From)⟩ : Span)] : List Span)) (b := 16) (chk_t h7) rfl) (.cons (app_m Enc.e v2 ([(⟨s, (if within.To < e.From then within.To else e.From)⟩ : Span)] : List Span)) .nil)) (by kernel_rfl) ?_
            obtain rfl := some_inj hm
            exact thN (Wk_J hL ⟨[(3, []), (6, []), (7, []), (9, []), (29, []), (30, []), (31, [])], [(16, 16, []), (32, 384, []), (48, 128, []), (64, 48, [])], [], 96⟩ (by kernel_rfl))
          · have hm := ie hc2 hm
            refine X_skip ?_
            obtain rfl := some_inj hm
            exact thN (Wk_J hL ⟨[(3, []), (6, []), (7, []), (9, []), (29, []), (30, []), (31, [])], [(16, 16, []), (32, 32, []), (48, 128, []), (64, 48, [])], [], 96⟩ (by kernel_rfl))
        have hm := hk1
        refine X_reg ty_ok Γok hL [] .nil (by kernel_rfl) ?_
        refine ibN ?_
        refine thN ?_
        refine X_reg ty_ok Γok hL [] .nil (by kernel_rfl) ?_
        obtain rfl := some_inj hm
        exact thN ⟨_, rfl, Wk_J hL ⟨[(3, []), (6, []), (7, []), (29, []), (30, []), (31, [])], [(16, 16, []), (32, 32, []), (48, 64, [])], [], 80⟩ (by kernel_rfl)⟩
      · have hm := ie hc1 hm
        obtain rfl := some_inj hm
        obtain rfl := hb1 _ rfl
        refine Ok_exit ?_
        refine thE ?_
        refine thE ?_
        refine ibE ?_
        exact thN (Wk_J hL ⟨[(6, [])], [(16, 32, [])], [], 48⟩ (by kernel_rfl))
    intro s1 hw
    have hm := hk2
    refine thN ?_
    refine Ok_weak hw ?_
    refine X_reg_seq ty_ok Γok hL [] .nil (by kernel_rfl) ?_
    obtain rfl := some_inj hm
    refine Ok_ret ?_
    repeat (first | refine thR ?_ | refine ibR ?_)
    exact X_fin [] [] (by kernel_rfl) trivial
abbrev s_l1In_r (y : Bool) : AV := .dat (Enc.e y)
abbrev s_l1In_n (y : Bool) : List Obj' := []
abbrev s_l1In_o (x : Int × Int × Int) (y : Bool) : List Obj' := []
noncomputable def s_l1In_S : FnSpec := modS [.rd, .rd, .rd] (fun x : Int × Int × Int => [Enc.e x.1, Enc.e x.2.1, Enc.e x.2.2]) (fun x : Int × Int × Int => []) (fun x : Int × Int × Int => s_l1In x.1 x.2.1 x.2.2) s_l1In_r s_l1In_n s_l1In_o
theorem s_l1In_c {x : Int} {a : Int} {b : Int} {y : Bool} (h : s_l1In x a b = some y) : CallOK s_l1In_S [Enc.e x, Enc.e a, Enc.e b] [] (s_l1In_r y) (s_l1In_n y) (s_l1In_o (x, a, b) y) :=
  modS_call (by
    rintro ⟨a0, a1, a2⟩ ⟨b0, b1, b2⟩ h hO
    have q0 : a0 = b0 := Enc.inj _ _ (congrArg (fun l => List.getD l 0 (.sc undef)) h)
    have q1 : a1 = b1 := Enc.inj _ _ (congrArg (fun l => List.getD l 1 (.sc undef)) h)
    have q2 : a2 = b2 := Enc.inj _ _ (congrArg (fun l => List.getD l 2 (.sc undef)) h)
    subst q0; subst q1; subst q2; rfl) (x := (x, a, b)) h
theorem s_l1In_ok : FnOK Try.prog 88 s_l1In_S := by
  have Γok : ∀ f S, lookF f [] = some S → FnOK Try.prog f S := lookF_ok allF_nil
  have Γlive : Live (fun f => lookF f []) := lookF_live allL_nil
  refine fnOK_mod ty_ok (fun args w => Try.call88 args w) Try.func88 rfl [.tmp 6] (by rw [Try.results88]) 15 Try.ntmps88 16 rfl (fun _ => by first | exact Nat.zero_le _ | (simp)) ?_
  rintro ⟨x, a, b⟩ y cx hm hL
  have hm : s_l1In x a b = some y := hm
  have hL : cx.L = 0 := hL
  unfold s_l1In at hm
  refine X_reg_seq ty_ok Γok hL [] .nil (by kernel_rfl) ?_
  obtain ⟨v, hv, hk⟩ := obind hm
  refine X_join (n := 15) (fun (v : Bool) => (⟨[(6, .dat (.sc (.bool v)))], [], 32⟩ : X)) v ?_ ?_
  · have hm := hv
    rcases btf (decide (a ≤ x)) with hb | hb
    · have hm := it hb hm
      obtain rfl := some_inj hm
      refine X_reg ty_ok Γok hL [(3, .b true)] (.cons hb .nil) (by kernel_rfl) ?_
      exact thN (Wk_J hL ⟨[(6, [])], [], [], 32⟩ (by kernel_rfl))
    · have hm := ie hb hm
      obtain rfl := some_inj hm
      refine X_reg ty_ok Γok hL [(3, .b false)] (.cons hb .nil) (by kernel_rfl) ?_
      exact thN (Wk_J hL ⟨[(6, [])], [], [], 32⟩ (by kernel_rfl))
  have hm := hk
  obtain rfl := some_inj hm
  refine Ok_ret ?_
  repeat (first | refine thR ?_ | refine ibR ?_)
  exact X_fin [] [] (by kernel_rfl) trivial
abbrev s_l4Time_r (y : Bool) : AV := .dat (Enc.e y)
abbrev s_l4Time_n (y : Bool) : List Obj' := []
abbrev s_l4Time_o (x : Int) (y : Bool) : List Obj' := []
noncomputable def s_l4Time_S : FnSpec := modS [.rd] (fun x : Int => [Enc.e x]) (fun x : Int => []) (fun x : Int => s_l4Time x) s_l4Time_r s_l4Time_n s_l4Time_o
theorem s_l4Time_c {t : Int} {y : Bool} (h : s_l4Time t = some y) : CallOK s_l4Time_S [Enc.e t] [] (s_l4Time_r y) (s_l4Time_n y) (s_l4Time_o t y) :=
  modS_call (by
    rintro a0 b0 h hO
    have q0 : a0 = b0 := Enc.inj _ _ (congrArg (fun l => List.getD l 0 (.sc undef)) h)
    subst q0; rfl) (x := t) h
theorem s_l4Time_ok : FnOK Try.prog 204 s_l4Time_S := by
  have Γok : ∀ f S, lookF f [(88, s_l1In_S)] = some S → FnOK Try.prog f S := lookF_ok (allF_cons s_l1In_ok allF_nil)
  have Γlive : Live (fun f => lookF f [(88, s_l1In_S)]) := lookF_live (allL_cons modS_live allL_nil)
  refine fnOK_mod ty_ok (fun args w => Try.call204 args w) Try.func204 rfl [.tmp 2] (by rw [Try.results204]) 5 Try.ntmps204 16 rfl (fun _ => by first | exact Nat.zero_le _ | (simp)) ?_
  rintro t y cx hm hL
  have hm : s_l4Time t = some y := hm
  have hL : cx.L = 0 := hL
  unfold s_l4Time at hm
  refine X_reg_seq ty_ok Γok hL [] .nil (by kernel_rfl) ?_
  obtain ⟨r, h, hm⟩ := obind hm
  refine X_reg_seq ty_ok Γok hL [(1, .c (s_l1In_r r) (s_l1In_n r) (s_l1In_o (t, 0, 1799) r))] (.cons (s_l1In_c h) .nil) (by kernel_rfl) ?_
  obtain rfl := some_inj hm
  refine Ok_ret ?_
  repeat (first | refine thR ?_ | refine ibR ?_)
  exact X_fin [] [] (by kernel_rfl) trivial
abbrev s_l4Span_r (y : Bool) : AV := .dat (Enc.e y)
abbrev s_l4Span_n (y : Bool) : List Obj' := []
abbrev s_l4Span_o (x : Span) (y : Bool) : List Obj' := []
noncomputable def s_l4Span_S : FnSpec := modS [.rd] (fun x : Span => [Enc.e x]) (fun x : Span => []) (fun x : Span => s_l4Span x) s_l4Span_r s_l4Span_n s_l4Span_o
theorem s_l4Span_c {x : Span} {y : Bool} (h : s_l4Span x = some y) : CallOK s_l4Span_S [Enc.e x] [] (s_l4Span_r y) (s_l4Span_n y) (s_l4Span_o x y) :=
  modS_call (by
    rintro a0 b0 h hO
    have q0 : a0 = b0 := Enc.inj _ _ (congrArg (fun l => List.getD l 0 (.sc undef)) h)
    subst q0; rfl) (x := x) h
theorem s_l4Span_ok : FnOK Try.prog 111 s_l4Span_S := by
  have Γok : ∀ f S, lookF f [(204, s_l4Time_S)] = some S → FnOK Try.prog f S := lookF_ok (allF_cons s_l4Time_ok allF_nil)
  have Γlive : Live (fun f => lookF f [(204, s_l4Time_S)]) := lookF_live (allL_cons modS_live allL_nil)
  refine fnOK_mod ty_ok (fun args w => Try.call111 args w) Try.func111 rfl [.tmp 2] (by rw [Try.results111]) 18 Try.ntmps111 16 rfl (fun _ => by first | exact Nat.zero_le _ | (simp)) ?_
  rintro x y cx hm hL
  have hm : s_l4Span x = some y := hm
  have hL : cx.L = 0 := hL
  unfold s_l4Span at hm
  refine X_reg_seq ty_ok Γok hL [] .nil (by kernel_rfl) ?_
  obtain ⟨r, h, hm⟩ := obind hm
  obtain ⟨v, hv, hk⟩ := obind hm
  refine X_join (n := 18) (fun (v : Bool) => (⟨[(2, .dat (.sc (.bool v)))], [], 32⟩ : X)) v ?_ ?_
  · have hm := hv
    rcases btf r with hb | hb
    · have hm := it hb hm
      obtain ⟨r1, h1, hm⟩ := obind hm
      rcases btf r1 with hb1 | hb1
      · have hm := it hb1 hm
        obtain rfl := some_inj hm
        refine X_reg ty_ok Γok hL [(2, .c (s_l4Time_r r) (s_l4Time_n r) (s_l4Time_o x.From r)), (3, .b true), (6, .c (s_l4Time_r r1) (s_l4Time_n r1) (s_l4Time_o x.To r1)), (8, .b true)] (.cons (s_l4Time_c h) (.cons hb (.cons (s_l4Time_c h1) (.cons hb1 .nil)))) (by kernel_rfl) ?_
        exact thN (Wk_J hL ⟨[(2, [])], [], [], 32⟩ (by kernel_rfl))
      · have hm := ie hb1 hm
        obtain rfl := some_inj hm
        refine X_reg ty_ok Γok hL [(2, .c (s_l4Time_r r) (s_l4Time_n r) (s_l4Time_o x.From r)), (3, .b true), (6, .c (s_l4Time_r r1) (s_l4Time_n r1) (s_l4Time_o x.To r1)), (8, .b false)] (.cons (s_l4Time_c h) (.cons hb (.cons (s_l4Time_c h1) (.cons hb1 .nil)))) (by kernel_rfl) ?_
        exact thN (Wk_J hL ⟨[(2, [])], [], [], 32⟩ (by kernel_rfl))
    · have hm := ie hb hm
      obtain rfl := some_inj hm
      refine X_reg ty_ok Γok hL [(2, .c (s_l4Time_r r) (s_l4Time_n r) (s_l4Time_o x.From r)), (3, .b false)] (.cons (s_l4Time_c h) (.cons hb .nil)) (by kernel_rfl) ?_
      exact thN (Wk_J hL ⟨[(2, [])], [], [], 32⟩ (by kernel_rfl))
  have hm := hk
  obtain rfl := some_inj hm
  refine Ok_ret ?_
  repeat (first | refine thR ?_ | refine ibR ?_)
  exact X_fin [] [] (by kernel_rfl) trivial
abbrev s_l4Spans_r (y : Bool) : AV := .dat (Enc.e y)
abbrev s_l4Spans_n (y : Bool) : List Obj' := []
abbrev s_l4Spans_o (x : (List Span)) (y : Bool) : List Obj' := []
noncomputable def s_l4Spans_S : FnSpec := modS [.rd] (fun x : (List Span) => [Enc.e x]) (fun x : (List Span) => []) (fun x : (List Span) => s_l4Spans x) s_l4Spans_r s_l4Spans_n s_l4Spans_o
theorem s_l4Spans_c {list : List Span} {y : Bool} (h : s_l4Spans list = some y) : CallOK s_l4Spans_S [Enc.e list] [] (s_l4Spans_r y) (s_l4Spans_n y) (s_l4Spans_o list y) :=
  modS_call (by
    rintro a0 b0 h hO
    have q0 : a0 = b0 := Enc.inj _ _ (congrArg (fun l => List.getD l 0 (.sc undef)) h)
    subst q0; rfl) (x := list) h
theorem s_l4Spans_ok : FnOK Try.prog 110 s_l4Spans_S := by
  have Γok : ∀ f S, lookF f [(111, s_l4Span_S)] = some S → FnOK Try.prog f S := lookF_ok (allF_cons s_l4Span_ok allF_nil)
  have Γlive : Live (fun f => lookF f [(111, s_l4Span_S)]) := lookF_live (allL_cons modS_live allL_nil)
  refine fnOK_mod ty_ok (fun args w => Try.call110 args w) Try.func110 rfl [.tmp 2] (by rw [Try.results110]) 23 Try.ntmps110 16 rfl (fun _ => by first | exact Nat.zero_le _ | (simp)) ?_
  rintro list y cx hm hL
  have hm : s_l4Spans list = some y := hm
  have hL : cx.L = 0 := hL
  unfold s_l4Spans at hm
  refine X_reg_seq ty_ok Γok hL [] .nil (by kernel_rfl) ?_
  refine Ok_seq ?_
  refine X_reg_seq ty_ok Γok hL [] .nil (by kernel_rfl) ?_
  obtain ⟨v2, hv1, hr, hk1⟩ := flb_t hm
  refine X_tailF (n := 23) (fun (_ : Unit) => (⟨[(0, .dat (Enc.e list))], [], 32⟩ : X)) v2 ?_ ?_
  · have hm := hv1
    refine Ok_block ?_
    refine X_loop (n := 23) (step := s_l4Spans_L1 list) (fun (v : Int) => (⟨[(0, .dat (Enc.e list)), (3, .dat (.sc (.int .i64 v)))], [], 32⟩ : X)) hm (Wk_J hL ⟨[(0, []), (3, [])], [], [], 32⟩ (by kernel_rfl)) ?_
    rintro v r0 hm hb
    rw [s_l4Spans_L1] at hm
    refine Ok_seq ?_
    obtain ⟨v1, hv, hk⟩ := obind hm
    refine X_join (n := 23) (fun (v1 : Bool) => (⟨[(0, .dat (Enc.e list)), (3, .dat (.sc (.int .i64 v))), (11, .dat (.sc (.bool v1)))], [], 32⟩ : X)) v1 ?_ ?_
    · have hm := hv
      rcases btf (decide (v < (list.length : Int))) with hb1 | hb1
      · have hm := it hb1 hm
        obtain rfl := some_inj hm
        refine X_reg ty_ok Γok hL [(2, .n (list.length : Int)), (4, .b true)] (.cons (len_m Enc.e list) (.cons hb1 .nil)) (by kernel_rfl) ?_
        exact thN (Wk_J hL ⟨[(0, []), (3, []), (11, [])], [], [], 32⟩ (by kernel_rfl))
      · have hm := ie hb1 hm
        obtain rfl := some_inj hm
        refine X_reg ty_ok Γok hL [(2, .n (list.length : Int)), (4, .b false)] (.cons (len_m Enc.e list) (.cons hb1 .nil)) (by kernel_rfl) ?_
        exact thN (Wk_J hL ⟨[(0, []), (3, []), (11, [])], [], [], 32⟩ (by kernel_rfl))
    have hm := hk
    refine X_cond v1 (by kernel_rfl) (fun hc => ?_) (fun hc => ?_)
    · have hm := it hc hm
      refine X_skip ?_
      refine thN ?_
      refine Ok_seq ?_
      refine Ok_block ?_
      obtain ⟨e, h, hm⟩ := obind hm
      obtain ⟨r, h1, hm⟩ := obind hm
      refine X_reg_seq ty_ok Γok hL [(2, .d (Enc.e e)), (4, .c (s_l4Span_r r) (s_l4Span_n r) (s_l4Span_o e r))] (.cons (idx_m (f := Enc.e) h) (.cons (s_l4Span_c h1) .nil)) (by kernel_rfl) ?_
      refine X_cond (!r) (by kernel_rfl) (fun hc1 => ?_) (fun hc1 => ?_)
      · have hm := it hc1 hm
        refine X_reg_seq ty_ok Γok hL [] .nil (by kernel_rfl) ?_
        obtain rfl := some_inj hm
        obtain rfl := hb _ rfl
        have hm := congrArg some (hr _ rfl)
        obtain rfl := some_inj hm
        refine Ok_ret ?_
        repeat (first | refine thR ?_ | refine ibR ?_)
        exact X_fin [] [] (by kernel_rfl) trivial
      · have hm := ie hc1 hm
        refine X_skip ?_
        refine ibN ?_
        refine thN ?_
        refine X_reg ty_ok Γok hL [] .nil (by kernel_rfl) ?_
        obtain rfl := some_inj hm
        exact thN ⟨_, rfl, Wk_J hL ⟨[(0, []), (3, [])], [], [], 32⟩ (by kernel_rfl)⟩
    · have hm := ie hc hm
      obtain rfl := some_inj hm
      obtain rfl := hb _ rfl
      refine Ok_exit ?_
      refine thE ?_
      refine thE ?_
      refine ibE ?_
      exact thN ⟨_, rfl, Wk_J hL ⟨[(0, [])], [], [], 32⟩ (by kernel_rfl)⟩
  rintro ⟨⟩ hu s hw
  have hm := hk1 _ hu
  refine thN ?_
  refine Ok_weak hw ?_
  refine X_reg_seq ty_ok Γok hL [(1, .n (list.length : Int))] (.cons (len_m Enc.e list) .nil) (by kernel_rfl) ?_
  obtain rfl := some_inj hm
  refine Ok_ret ?_
  repeat (first | refine thR ?_ | refine ibR ?_)
  exact X_fin [] [] (by kernel_rfl) trivial
abbrev s_l4Counts_r (y : (List Int)) : AV := .own 0
abbrev s_l4Counts_n (y : (List Int)) : List Obj' := [.arr 3 1 (List.map Enc.e y)]
abbrev s_l4Counts_o (x : (List Span)) (y : (List Int)) : List Obj' := []
noncomputable def s_l4Counts_S : FnSpec := modS [.rd] (fun x : (List Span) => [Enc.e x]) (fun x : (List Span) => []) (fun x : (List Span) => s_l4Counts x) s_l4Counts_r s_l4Counts_n s_l4Counts_o
theorem s_l4Counts_c {list : List Span} {y : (List Int)} (h : s_l4Counts list = some y) : CallOK s_l4Counts_S [Enc.e list] [] (s_l4Counts_r y) (s_l4Counts_n y) (s_l4Counts_o list y) :=
  modS_call (by
    rintro a0 b0 h hO
    have q0 : a0 = b0 := Enc.inj _ _ (congrArg (fun l => List.getD l 0 (.sc undef)) h)
    subst q0; rfl) (x := list) h
theorem s_l4Counts_ok : FnOK Try.prog 113 s_l4Counts_S := by
  have Γok : ∀ f S, lookF f [] = some S → FnOK Try.prog f S := lookF_ok allF_nil
  have Γlive : Live (fun f => lookF f []) := lookF_live allL_nil
  refine fnOK_mod ty_ok (fun args w => Try.call113 args w) Try.func113 rfl [.tmp 2] (by rw [Try.results113]) 34 Try.ntmps113 16 rfl (fun _ => by first | exact Nat.zero_le _ | (simp)) ?_
  rintro list y cx hm hL
  have hm : s_l4Counts list = some y := hm
  have hL : cx.L = 0 := hL
  unfold s_l4Counts at hm
  refine X_reg_seq ty_ok Γok hL [] .nil (by kernel_rfl) ?_
  obtain ⟨u, h, hm⟩ := obind hm
  refine X_reg_seq ty_ok Γok hL [(0, .l (List.map Enc.e (List.replicate (1800 : Int).toNat (0 : Int))))] (.cons (mk_p (b := 8) (chk_t h) rfl) (.cons (rep_m Enc.e (1800 : Int).toNat (0 : Int)) .nil)) (by kernel_rfl) ?_
  refine Ok_seq ?_
  refine X_reg_seq ty_ok Γok hL [] .nil (by kernel_rfl) ?_
  obtain ⟨i3, hv1, hk1⟩ := obind hm
  refine X_tail (n := 34) (fun (i3 : List Int) => (⟨[(3, .own 16)], [(16, some (.arr 3 1 (List.map Enc.e i3)))], 48⟩ : X)) i3 ?_ ?_
  · have hm := hv1
    refine Ok_block ?_
    refine X_loop (n := 34) (step := s_l4Counts_L2 list) (fun ((t, i) : Int × (List Int)) => (⟨[(0, .dat (Enc.e list)), (3, .own 16), (4, .dat (.sc (.int .i64 t)))], [(16, some (.arr 3 1 (List.map Enc.e i)))], 48⟩ : X)) hm (Wk_J hL ⟨[(0, []), (3, []), (4, [])], [(16, 32, [])], [], 48⟩ (by kernel_rfl)) ?_
    rintro ⟨t, i⟩ r0 hm hb
    rw [s_l4Counts_L2] at hm
    refine Ok_seq ?_
    refine X_reg_seq ty_ok Γok hL [(2, .n (list.length : Int))] (.cons (len_m Enc.e list) .nil) (by kernel_rfl) ?_
    refine X_cond (decide (t < (list.length : Int))) (by kernel_rfl) (fun hc => ?_) (fun hc => ?_)
    · have hm := it hc hm
      refine X_skip ?_
      refine thN ?_
      refine Ok_seq ?_
      refine Ok_block ?_
      obtain ⟨e, h1, hm⟩ := obind hm
      refine X_reg_seq ty_ok Γok hL [(2, .d (Enc.e e))] (.cons (idx_m (f := Enc.e) h1) .nil) (by kernel_rfl) ?_
      obtain ⟨i2, hv, hk⟩ := obind hm
      refine X_tail (n := 34) (fun (i2 : List Int) => (⟨[(0, .dat (Enc.e list)), (3, .own 16), (4, .dat (.sc (.int .i64 t)))], [(16, some (.arr 3 1 (List.map Enc.e i2)))], 48⟩ : X)) i2 ?_ ?_
      · have hm := hv
        refine Ok_block ?_
        refine X_loop (n := 34) (step := s_l4Counts_L1 list t) (fun ((v, i1) : Int × (List Int)) => (⟨[(0, .dat (Enc.e list)), (3, .own 16), (4, .dat (.sc (.int .i64 t))), (5, .dat (.sc (.int .i64 v)))], [(16, some (.arr 3 1 (List.map Enc.e i1)))], 48⟩ : X)) hm (Wk_J hL ⟨[(0, []), (3, []), (4, []), (5, [])], [(16, 16, [])], [], 48⟩ (by kernel_rfl)) ?_
        rintro ⟨v, i1⟩ r0 hm hb1
        rw [s_l4Counts_L1] at hm
        refine Ok_seq ?_
        obtain ⟨e1, h2, hm⟩ := obind hm
        refine X_reg_seq ty_ok Γok hL [(3, .d (Enc.e e1))] (.cons (idx_m (f := Enc.e) h2) .nil) (by kernel_rfl) ?_
        refine X_cond (decide (v < e1.To)) (by kernel_rfl) (fun hc1 => ?_) (fun hc1 => ?_)
        · have hm := it hc1 hm
          refine X_skip ?_
          refine thN ?_
          refine Ok_seq ?_
          refine Ok_block ?_
          obtain ⟨e2, h3, hm⟩ := obind hm
          obtain ⟨e3, h4, hm⟩ := obind hm
          refine X_reg ty_ok Γok hL [(2, .d (Enc.e e2)), (3, .d (Enc.e e2)), (5, .d (Enc.e e3)), (6, .sd (Enc.e e3) (List.map Enc.e (i1.set v.toNat (w64 (e2 + 1)))))] (.cons (idx_m (f := Enc.e) h3) (.cons (idx_m2 (f := Enc.e) h3) (.cons (idx_m (f := Enc.e) h4) (.cons (idx_m2 (f := Enc.e) h4) (.cons (set_m Enc.e i1 v.toNat (w64 (e2 + 1))) .nil))))) (by kernel_rfl) ?_
          refine ibN ?_
          refine thN ?_
          refine X_reg ty_ok Γok hL [] .nil (by kernel_rfl) ?_
          obtain rfl := some_inj hm
          exact thN ⟨_, rfl, Wk_J hL ⟨[(0, []), (3, []), (4, []), (5, [])], [(16, 16, [])], [], 48⟩ (by kernel_rfl)⟩
        · have hm := ie hc1 hm
          obtain rfl := some_inj hm
          obtain rfl := hb1 _ rfl
          refine Ok_exit ?_
          refine thE ?_
          refine thE ?_
          refine ibE ?_
          exact thN (Wk_J hL ⟨[(0, []), (3, []), (4, [])], [(16, 16, [])], [], 48⟩ (by kernel_rfl))
      intro s hw
      have hm := hk
      refine ibN ?_
      refine thN ?_
      refine Ok_weak hw ?_
      refine X_reg ty_ok Γok hL [] .nil (by kernel_rfl) ?_
      obtain rfl := some_inj hm
      exact thN ⟨_, rfl, Wk_J hL ⟨[(0, []), (3, []), (4, [])], [(16, 16, [])], [], 48⟩ (by kernel_rfl)⟩
    · have hm := ie hc hm
      obtain rfl := some_inj hm
      obtain rfl := hb _ rfl
      refine Ok_exit ?_
      refine thE ?_
      refine thE ?_
      refine ibE ?_
      exact thN (Wk_J hL ⟨[(3, [])], [(16, 16, [])], [], 48⟩ (by kernel_rfl))
  intro s1 hw1
  have hm := hk1
  refine thN ?_
  refine Ok_weak hw1 ?_
  refine X_reg_seq ty_ok Γok hL [] .nil (by kernel_rfl) ?_
  obtain rfl := some_inj hm
  refine Ok_ret ?_
  repeat (first | refine thR ?_ | refine ibR ?_)
  exact X_fin [16] [] (by kernel_rfl) trivial
abbrev s_l4Runs_r (y : (List Span)) : AV := .own 0
abbrev s_l4Runs_n (y : (List Span)) : List Obj' := [.arr 49 2 (List.map Enc.e y)]
abbrev s_l4Runs_o (x : (List Int) × Span × Bool) (y : (List Span)) : List Obj' := []
noncomputable def s_l4Runs_S : FnSpec := modS [.rd, .rd, .rd] (fun x : (List Int) × Span × Bool => [Enc.e x.1, Enc.e x.2.1, Enc.e x.2.2]) (fun x : (List Int) × Span × Bool => []) (fun x : (List Int) × Span × Bool => s_l4Runs x.1 x.2.1 x.2.2) s_l4Runs_r s_l4Runs_n s_l4Runs_o
theorem s_l4Runs_c {counts : List Int} {within : Span} {busy : Bool} {y : (List Span)} (h : s_l4Runs counts within busy = some y) : CallOK s_l4Runs_S [Enc.e counts, Enc.e within, Enc.e busy] [] (s_l4Runs_r y) (s_l4Runs_n y) (s_l4Runs_o (counts, within, busy) y) :=
  modS_call (by
    rintro ⟨a0, a1, a2⟩ ⟨b0, b1, b2⟩ h hO
    have q0 : a0 = b0 := Enc.inj _ _ (congrArg (fun l => List.getD l 0 (.sc undef)) h)
    have q1 : a1 = b1 := Enc.inj _ _ (congrArg (fun l => List.getD l 1 (.sc undef)) h)
    have q2 : a2 = b2 := Enc.inj _ _ (congrArg (fun l => List.getD l 2 (.sc undef)) h)
    subst q0; subst q1; subst q2; rfl) (x := (counts, within, busy)) h
theorem s_l4Runs_ok : FnOK Try.prog 112 s_l4Runs_S := by
  have Γok : ∀ f S, lookF f [] = some S → FnOK Try.prog f S := lookF_ok allF_nil
  have Γlive : Live (fun f => lookF f []) := lookF_live allL_nil
  refine fnOK_mod ty_ok (fun args w => Try.call112 args w) Try.func112 rfl [.tmp 6] (by rw [Try.results112]) 62 Try.ntmps112 16 rfl (fun _ => by first | exact Nat.zero_le _ | (simp)) ?_
  rintro ⟨counts, within, busy⟩ y cx hm hL
  have hm : s_l4Runs counts within busy = some y := hm
  have hL : cx.L = 0 := hL
  unfold s_l4Runs at hm
  refine X_reg_seq ty_ok Γok hL [] .nil (by kernel_rfl) ?_
  refine X_reg_seq ty_ok Γok hL [] .nil (by kernel_rfl) ?_
  refine Ok_seq ?_
  refine X_reg_seq ty_ok Γok hL [] .nil (by kernel_rfl) ?_
  obtain ⟨x2, hv2, hk2⟩ := obind hm
  refine X_tail (n := 62) (fun (x2 : List Span) => (⟨[(7, .own 16)], [(16, some (.arr 49 2 (List.map Enc.e x2)))], 48⟩ : X)) x2 ?_ ?_
  · have hm := hv2
    refine Ok_block ?_
    refine X_loop (n := 62) (step := s_l4Runs_L1 counts within busy) (fun ((v, x) : Int × (List Span)) => (⟨[(0, .dat (Enc.e counts)), (2, .dat (.sc (.bool busy))), (4, .ref 16 0), (7, .own 32), (8, .dat (.sc (.int .i64 v)))], [(16, some (.box [.dat (.sc (.int .i64 within.From)), .dat (.sc (.int .i64 within.To))])), (32, some (.arr 49 2 (List.map Enc.e x)))], 64⟩ : X)) hm (Wk_J hL ⟨[(0, []), (2, []), (4, []), (7, []), (8, [])], [(16, 16, []), (32, 48, [])], [], 64⟩ (by kernel_rfl)) ?_
    rintro ⟨v, x⟩ r0 hm hb
    rw [s_l4Runs_L1] at hm
    refine Ok_seq ?_
    refine X_reg_seq ty_ok Γok hL [] .nil (by kernel_rfl) ?_
    refine X_cond (decide (v < within.To)) (by kernel_rfl) (fun hc => ?_) (fun hc => ?_)
    · have hm := it hc hm
      refine X_skip ?_
      refine thN ?_
      obtain ⟨x1, hv, hk⟩ := obind hm
      refine X_join (n := 62) (fun (x1 : List Span) => (⟨[(0, .dat (Enc.e counts)), (2, .dat (.sc (.bool busy))), (4, .ref 16 0), (7, .own 32), (8, .dat (.sc (.int .i64 v)))], [(16, some (.box [.dat (.sc (.int .i64 within.From)), .dat (.sc (.int .i64 within.To))])), (32, some (.arr 49 2 (List.map Enc.e x1)))], 64⟩ : X)) x1 ?_ ?_
      · have hm := hv
        refine Ok_block ?_
        refine Ok_seq ?_
        obtain ⟨e, h, hm⟩ := obind hm
        refine X_reg_seq ty_ok Γok hL [(2, .d (Enc.e e))] (.cons (idx_m (f := Enc.e) h) .nil) (by kernel_rfl) ?_
        refine X_cond (!((decide (0 < e)) == busy)) (by kernel_rfl) (fun hc1 => ?_) (fun hc1 => ?_)
        · have hm := it hc1 hm
          refine Ok_exit ?_
          refine thE ?_
          refine ibE ?_
          obtain rfl := some_inj hm
          exact thN (Wk_J hL ⟨[(0, []), (2, []), (4, []), (7, []), (8, [])], [(16, 16, []), (32, 32, [])], [], 64⟩ (by kernel_rfl))
        · have hm := ie hc1 hm
          refine X_skip ?_
          refine thN ?_
          refine X_reg_seq ty_ok Γok hL [(1, .n (x.length : Int))] (.cons (len_m Enc.e x) .nil) (by kernel_rfl) ?_
          obtain ⟨v1, hv1, hk1⟩ := obind hm
          refine X_join (n := 62) (fun (v1 : Bool) => (⟨[(0, .dat (Enc.e counts)), (2, .dat (.sc (.bool busy))), (4, .ref 16 0), (7, .own 32), (8, .dat (.sc (.int .i64 v))), (9, .dat (.sc (.int .i64 (x.length : Int)))), (40, .dat (.sc (.bool v1)))], [(16, some (.box [.dat (.sc (.int .i64 within.From)), .dat (.sc (.int .i64 within.To))])), (32, some (.arr 49 2 (List.map Enc.e x)))], 64⟩ : X)) v1 ?_ ?_
          · have hm := hv1
            rcases btf (decide (0 < (x.length : Int))) with hb1 | hb1
            · have hm := it hb1 hm
              obtain ⟨e1, h1, hm⟩ := obind hm
              obtain rfl := some_inj hm
              refine X_reg ty_ok Γok hL [(2, .b true), (6, .d (Enc.e e1)), (8, .d (Enc.e e1))] (.cons hb1 (.cons (idx_m (f := Enc.e) h1) (.cons (idx_m2 (f := Enc.e) h1) .nil))) (by kernel_rfl) ?_
              exact thN (Wk_J hL ⟨[(0, []), (2, []), (4, []), (7, []), (8, []), (9, []), (40, [])], [(16, 16, []), (32, 32, [])], [], 64⟩ (by kernel_rfl))
            · have hm := ie hb1 hm
              obtain rfl := some_inj hm
              refine X_reg ty_ok Γok hL [(2, .b false)] (.cons hb1 .nil) (by kernel_rfl) ?_
              exact thN (Wk_J hL ⟨[(0, []), (2, []), (4, []), (7, []), (8, []), (9, []), (40, [])], [(16, 16, []), (32, 32, [])], [], 64⟩ (by kernel_rfl))
          have hm := hk1
          refine X_cond v1 (by kernel_rfl) (fun hc2 => ?_) (fun hc2 => ?_)
          · have hm := it hc2 hm
            obtain ⟨e2, h2, hm⟩ := obind hm
            refine X_reg_seq ty_ok Γok hL [(3, .d (Enc.e e2)), (4, .d (Enc.e e2))] (.cons (idx_m (f := Enc.e) h2) (.cons (idx_m2 (f := Enc.e) h2) .nil)) (by kernel_rfl) ?_
            refine X_reg_seq ty_ok Γok hL [] .nil (by kernel_rfl) ?_
            obtain ⟨e3, h3, hm⟩ := obind hm
            refine X_reg ty_ok Γok hL [(4, .d (Enc.e e3)), (5, .sd (Enc.e e3) (List.map Enc.e (x.set (w64 ((x.length : Int) - 1)).toNat (⟨e2.From, (w64 (v + 1))⟩ : Span))))] (.cons (idx_m (f := Enc.e) h3) (.cons (idx_m2 (f := Enc.e) h3) (.cons (set_m Enc.e x (w64 ((x.length : Int) - 1)).toNat (⟨e2.From, (w64 (v + 1))⟩ : Span)) .nil))) (by kernel_rfl) ?_
            refine ibN ?_
            obtain rfl := some_inj hm
            exact thN (Wk_J hL ⟨[(0, []), (2, []), (4, []), (7, []), (8, [])], [(16, 16, []), (32, 32, [])], [], 64⟩ (by kernel_rfl))
          · have hm := ie hc2 hm
            obtain ⟨u, h4, hm⟩ := obind hm
            refine X_reg ty_ok Γok hL [(6, .l (List.map Enc.e (x ++ ([(⟨v, (w64 (v + 1))⟩ : Span)] : List Span))))] (.cons (app_p (f := Enc.e) (g := Enc.e) (l := x) (r := ([(⟨v, (w64 (v + 1))⟩ : Span)] : List Span)) (b := 16) (chk_t h4) rfl) (.cons (app_m Enc.e x ([(⟨v, (w64 (v + 1))⟩ : Span)] : List Span)) .nil)) (by kernel_rfl) ?_
            refine ibN ?_
            obtain rfl := some_inj hm
            exact thN (Wk_J hL ⟨[(0, []), (2, []), (4, []), (7, []), (8, [])], [(16, 16, []), (32, 160, [])], [], 64⟩ (by kernel_rfl))
      have hm := hk
      refine X_reg ty_ok Γok hL [] .nil (by kernel_rfl) ?_
      obtain rfl := some_inj hm
      exact thN ⟨_, rfl, Wk_J hL ⟨[(0, []), (2, []), (4, []), (7, []), (8, [])], [(16, 16, []), (32, 32, [])], [], 64⟩ (by kernel_rfl)⟩
    · have hm := ie hc hm
      obtain rfl := some_inj hm
      obtain rfl := hb _ rfl
      refine Ok_exit ?_
      refine thE ?_
      refine thE ?_
      refine ibE ?_
      exact thN (Wk_J hL ⟨[(7, [])], [(16, 32, [])], [], 48⟩ (by kernel_rfl))
  intro s hw
  have hm := hk2
  refine thN ?_
  refine Ok_weak hw ?_
  refine X_reg_seq ty_ok Γok hL [] .nil (by kernel_rfl) ?_
  obtain rfl := some_inj hm
  refine Ok_ret ?_
  repeat (first | refine thR ?_ | refine ibR ?_)
  exact X_fin [16] [] (by kernel_rfl) trivial
abbrev s_FreeSpans_r (y : (List Span) × Bool) : AV := .tup [.own 0, .dat (Enc.e y.2)]
abbrev s_FreeSpans_n (y : (List Span) × Bool) : List Obj' := [.arr 49 2 (List.map Enc.e y.1)]
abbrev s_FreeSpans_o (x : (List Span) × Span) (y : (List Span) × Bool) : List Obj' := []
noncomputable def s_FreeSpans_S : FnSpec := modS [.rd, .rd] (fun x : (List Span) × Span => [Enc.e x.1, Enc.e x.2]) (fun x : (List Span) × Span => []) (fun x : (List Span) × Span => s_FreeSpans x.1 x.2) s_FreeSpans_r s_FreeSpans_n s_FreeSpans_o
theorem s_FreeSpans_c {list : List Span} {within : Span} {y : (List Span) × Bool} (h : s_FreeSpans list within = some y) : CallOK s_FreeSpans_S [Enc.e list, Enc.e within] [] (s_FreeSpans_r y) (s_FreeSpans_n y) (s_FreeSpans_o (list, within) y) :=
  modS_call (by
    rintro ⟨a0, a1⟩ ⟨b0, b1⟩ h hO
    have q0 : a0 = b0 := Enc.inj _ _ (congrArg (fun l => List.getD l 0 (.sc undef)) h)
    have q1 : a1 = b1 := Enc.inj _ _ (congrArg (fun l => List.getD l 1 (.sc undef)) h)
    subst q0; subst q1; rfl) (x := (list, within)) h
theorem s_FreeSpans_ok : FnOK Try.prog 27 s_FreeSpans_S := by
  have Γok : ∀ f S, lookF f [(110, s_l4Spans_S), (111, s_l4Span_S), (113, s_l4Counts_S), (112, s_l4Runs_S)] = some S → FnOK Try.prog f S := lookF_ok (allF_cons s_l4Spans_ok (allF_cons s_l4Span_ok (allF_cons s_l4Counts_ok (allF_cons s_l4Runs_ok allF_nil))))
  have Γlive : Live (fun f => lookF f [(110, s_l4Spans_S), (111, s_l4Span_S), (113, s_l4Counts_S), (112, s_l4Runs_S)]) := lookF_live (allL_cons modS_live (allL_cons modS_live (allL_cons modS_live (allL_cons modS_live allL_nil))))
  refine fnOK_mod ty_ok (fun args w => Try.call27 args w) Try.func27 rfl [.tmp 4, .tmp 5] (by rw [Try.results27]) 19 Try.ntmps27 16 rfl (fun _ => by first | exact Nat.zero_le _ | (simp)) ?_
  rintro ⟨list, within⟩ y cx hm hL
  have hm : s_FreeSpans list within = some y := hm
  have hL : cx.L = 0 := hL
  unfold s_FreeSpans at hm
  refine X_reg_seq ty_ok Γok hL [] .nil (by kernel_rfl) ?_
  refine Ok_seq ?_
  obtain ⟨r, h, hm⟩ := obind hm
  obtain ⟨v, hv, hk⟩ := obind hm
  refine X_join (n := 19) (fun (v : Bool) => (⟨[(0, .dat (Enc.e list)), (3, .ref 16 0), (13, .dat (.sc (.bool v)))], [(16, some (.box [.dat (.sc (.int .i64 within.From)), .dat (.sc (.int .i64 within.To))]))], 48⟩ : X)) v ?_ ?_
  · have hm := hv
    rcases btf (!r) with hb | hb
    · have hm := it hb hm
      obtain rfl := some_inj hm
      refine X_reg ty_ok Γok hL [(1, .c (s_l4Spans_r r) (s_l4Spans_n r) (s_l4Spans_o list r)), (3, .b true)] (.cons (s_l4Spans_c h) (.cons hb .nil)) (by kernel_rfl) ?_
      exact thN (Wk_J hL ⟨[(0, []), (3, []), (13, [])], [(16, 16, [])], [], 48⟩ (by kernel_rfl))
    · have hm := ie hb hm
      obtain ⟨r1, h1, hm⟩ := obind hm
      obtain rfl := some_inj hm
      refine X_reg ty_ok Γok hL [(1, .c (s_l4Spans_r r) (s_l4Spans_n r) (s_l4Spans_o list r)), (3, .b false), (5, .c (s_l4Span_r r1) (s_l4Span_n r1) (s_l4Span_o within r1))] (.cons (s_l4Spans_c h) (.cons hb (.cons (s_l4Span_c h1) .nil))) (by kernel_rfl) ?_
      exact thN (Wk_J hL ⟨[(0, []), (3, []), (13, [])], [(16, 16, [])], [], 48⟩ (by kernel_rfl))
  have hm := hk
  refine X_cond v (by kernel_rfl) (fun hc => ?_) (fun hc => ?_)
  · have hm := it hc hm
    refine X_reg_seq ty_ok Γok hL [] .nil (by kernel_rfl) ?_
    obtain rfl := some_inj hm
    refine Ok_ret ?_
    repeat (first | refine thR ?_ | refine ibR ?_)
    exact X_fin [48] [] (by kernel_rfl) trivial
  · have hm := ie hc hm
    refine X_skip ?_
    refine thN ?_
    obtain ⟨r4, h4, hm⟩ := obind hm
    obtain ⟨r5, h5, hm⟩ := obind hm
    refine X_draw_seq mixed ty_ok Γok Γlive [] (by kernel_rfl) [(1, .c (s_l4Counts_r r4) (s_l4Counts_n r4) (s_l4Counts_o list r4)), (3, .cf (s_l4Runs_r r5) (s_l4Runs_n r5) (s_l4Runs_o (r4, within, false) r5))] (.cons (s_l4Counts_c h4) (.cons (s_l4Runs_c h5) (.cons (show FlatRes (s_l4Runs_n r5) (s_l4Runs_o (r4, within, false) r5) from ⟨(flat_cons flat_arr flat_nil), flat_nil⟩) .nil))) (by kernel_rfl) ?_
    obtain rfl := some_inj hm
    refine Ok_ret ?_
    repeat (first | refine thR ?_ | refine ibR ?_)
    exact X_fin [96] [] (by kernel_rfl) trivial
abbrev v_vSpans_r (y : Bool) : AV := .dat (Enc.e y)
abbrev v_vSpans_n (y : Bool) : List Obj' := []
abbrev v_vSpans_o (x : (List Span) × (List Span)) (y : Bool) : List Obj' := []
noncomputable def v_vSpans_S : FnSpec := modS [.rd, .rd] (fun x : (List Span) × (List Span) => [Enc.e x.1, Enc.e x.2]) (fun x : (List Span) × (List Span) => []) (fun x : (List Span) × (List Span) => v_vSpans x.1 x.2) v_vSpans_r v_vSpans_n v_vSpans_o
theorem v_vSpans_c {a : List Span} {b : List Span} {y : Bool} (h : v_vSpans a b = some y) : CallOK v_vSpans_S [Enc.e a, Enc.e b] [] (v_vSpans_r y) (v_vSpans_n y) (v_vSpans_o (a, b) y) :=
  modS_call (by
    rintro ⟨a0, a1⟩ ⟨b0, b1⟩ h hO
    have q0 : a0 = b0 := Enc.inj _ _ (congrArg (fun l => List.getD l 0 (.sc undef)) h)
    have q1 : a1 = b1 := Enc.inj _ _ (congrArg (fun l => List.getD l 1 (.sc undef)) h)
    subst q0; subst q1; rfl) (x := (a, b)) h
theorem v_vSpans_ok : FnOK Try.prog 28 v_vSpans_S := by
  have Γok : ∀ f S, lookF f [] = some S → FnOK Try.prog f S := lookF_ok allF_nil
  have Γlive : Live (fun f => lookF f []) := lookF_live allL_nil
  refine fnOK_mod ty_ok (fun args w => Try.call28 args w) Try.func28 rfl [.tmp 4] (by rw [Try.results28]) 26 Try.ntmps28 16 rfl (fun _ => by first | exact Nat.zero_le _ | (simp)) ?_
  rintro ⟨a, b⟩ y cx hm hL
  have hm : v_vSpans a b = some y := hm
  have hL : cx.L = 0 := hL
  unfold v_vSpans at hm
  refine X_reg_seq ty_ok Γok hL [] .nil (by kernel_rfl) ?_
  refine Ok_seq ?_
  refine X_reg_seq ty_ok Γok hL [(1, .n (a.length : Int)), (3, .n (b.length : Int))] (.cons (len_m Enc.e a) (.cons (len_m Enc.e b) .nil)) (by kernel_rfl) ?_
  refine X_cond ((a.length : Int) != (b.length : Int)) (by kernel_rfl) (fun hc => ?_) (fun hc => ?_)
  · have hm := it hc hm
    refine X_reg_seq ty_ok Γok hL [] .nil (by kernel_rfl) ?_
    obtain rfl := some_inj hm
    refine Ok_ret ?_
    repeat (first | refine thR ?_ | refine ibR ?_)
    exact X_fin [] [] (by kernel_rfl) trivial
  · have hm := ie hc hm
    refine X_skip ?_
    refine thN ?_
    refine Ok_seq ?_
    refine X_reg_seq ty_ok Γok hL [] .nil (by kernel_rfl) ?_
    obtain ⟨v1, hv, hr, hk⟩ := flb_t hm
    refine X_tailF (n := 26) (fun (_ : Unit) => (⟨[], [], 32⟩ : X)) v1 ?_ ?_
    · have hm := hv
      refine Ok_block ?_
      refine X_loop (n := 26) (step := v_vSpans_L1 a b) (fun (v : Int) => (⟨[(0, .dat (Enc.e a)), (1, .dat (Enc.e b)), (5, .dat (.sc (.int .i64 v)))], [], 32⟩ : X)) hm (Wk_J hL ⟨[(0, []), (1, []), (5, [])], [], [], 32⟩ (by kernel_rfl)) ?_
      rintro v r0 hm hb
      rw [v_vSpans_L1] at hm
      refine Ok_seq ?_
      refine X_reg_seq ty_ok Γok hL [(2, .n (a.length : Int))] (.cons (len_m Enc.e a) .nil) (by kernel_rfl) ?_
      refine X_cond (decide (v < (a.length : Int))) (by kernel_rfl) (fun hc1 => ?_) (fun hc1 => ?_)
      · have hm := it hc1 hm
        refine X_skip ?_
        refine thN ?_
        refine Ok_seq ?_
        refine Ok_block ?_
        obtain ⟨e2, h2, hm⟩ := obind hm
        obtain ⟨e3, h3, hm⟩ := obind hm
        refine X_draw_seq mixed ty_ok Γok Γlive [] (by kernel_rfl) [(2, .d (Enc.e e2)), (6, .d (Enc.e e3))] (.cons (idx_m (f := Enc.e) h2) (.cons (idx_m (f := Enc.e) h3) .nil)) (by kernel_rfl) ?_
        refine X_cond (!((e2.From == e3.From) && ((e2.To == e3.To) && true))) (by kernel_rfl) (fun hc2 => ?_) (fun hc2 => ?_)
        · have hm := it hc2 hm
          refine X_reg_seq ty_ok Γok hL [] .nil (by kernel_rfl) ?_
          obtain rfl := some_inj hm
          obtain rfl := hb _ rfl
          have hm := congrArg some (hr _ rfl)
          obtain rfl := some_inj hm
          refine Ok_ret ?_
          repeat (first | refine thR ?_ | refine ibR ?_)
          exact X_fin [] [] (by kernel_rfl) trivial
        · have hm := ie hc2 hm
          refine X_skip ?_
          refine ibN ?_
          refine thN ?_
          refine X_reg ty_ok Γok hL [] .nil (by kernel_rfl) ?_
          obtain rfl := some_inj hm
          exact thN ⟨_, rfl, Wk_J hL ⟨[(0, []), (1, []), (5, [])], [], [], 32⟩ (by kernel_rfl)⟩
      · have hm := ie hc1 hm
        obtain rfl := some_inj hm
        obtain rfl := hb _ rfl
        refine Ok_exit ?_
        refine thE ?_
        refine thE ?_
        refine ibE ?_
        exact thN ⟨_, rfl, Wk_J hL ⟨[], [], [], 32⟩ (by kernel_rfl)⟩
    rintro ⟨⟩ hu s hw
    have hm := hk _ hu
    refine thN ?_
    refine Ok_weak hw ?_
    refine X_reg_seq ty_ok Γok hL [] .nil (by kernel_rfl) ?_
    obtain rfl := some_inj hm
    refine Ok_ret ?_
    repeat (first | refine thR ?_ | refine ibR ?_)
    exact X_fin [] [] (by kernel_rfl) trivial
abbrev i_MergeSpans_r (y : (List Span) × Bool) : AV := .tup [.dat (Enc.e y.1), .dat (Enc.e y.2)]
abbrev i_MergeSpans_n (y : (List Span) × Bool) : List Obj' := []
abbrev i_MergeSpans_o (x : (List Span)) (y : (List Span) × Bool) : List Obj' := []
noncomputable def i_MergeSpans_S : FnSpec := modS [.rd] (fun x : (List Span) => [Enc.e x]) (fun x : (List Span) => []) (fun x : (List Span) => i_MergeSpans x) i_MergeSpans_r i_MergeSpans_n i_MergeSpans_o
theorem i_MergeSpans_c {list : List Span} {y : (List Span) × Bool} (h : i_MergeSpans list = some y) : CallOK i_MergeSpans_S [Enc.e list] [] (i_MergeSpans_r y) (i_MergeSpans_n y) (i_MergeSpans_o list y) :=
  modS_call (by
    rintro a0 b0 h hO
    have q0 : a0 = b0 := Enc.inj _ _ (congrArg (fun l => List.getD l 0 (.sc undef)) h)
    subst q0; rfl) (x := list) h
theorem i_MergeSpans_ok : FnOK Try.prog 29 i_MergeSpans_S := by
  have Γok : ∀ f S, lookF f [(95, i_areSpans_S), (109, i_mergeSpans_S)] = some S → FnOK Try.prog f S := lookF_ok (allF_cons i_areSpans_ok (allF_cons i_mergeSpans_ok allF_nil))
  have Γlive : Live (fun f => lookF f [(95, i_areSpans_S), (109, i_mergeSpans_S)]) := lookF_live (allL_cons modS_live (allL_cons modS_live allL_nil))
  refine fnOK_mod ty_ok (fun args w => Try.call29 args w) Try.func29 rfl [.tmp 2, .tmp 3] (by rw [Try.results29]) 9 Try.ntmps29 16 rfl (fun _ => by first | exact Nat.zero_le _ | (simp)) ?_
  rintro list y cx hm hL
  have hm : i_MergeSpans list = some y := hm
  have hL : cx.L = 0 := hL
  unfold i_MergeSpans at hm
  refine X_reg_seq ty_ok Γok hL [] .nil (by kernel_rfl) ?_
  refine Ok_seq ?_
  obtain ⟨r, h, hm⟩ := obind hm
  refine X_reg_seq ty_ok Γok hL [(1, .c (i_areSpans_r r) (i_areSpans_n r) (i_areSpans_o list r))] (.cons (i_areSpans_c h) .nil) (by kernel_rfl) ?_
  refine X_cond (!r) (by kernel_rfl) (fun hc => ?_) (fun hc => ?_)
  · have hm := it hc hm
    refine X_reg_seq ty_ok Γok hL [] .nil (by kernel_rfl) ?_
    obtain rfl := some_inj hm
    refine Ok_ret ?_
    repeat (first | refine thR ?_ | refine ibR ?_)
    exact X_fin [] [[.z 2]] (by kernel_rfl) trivial
  · have hm := ie hc hm
    refine X_skip ?_
    refine thN ?_
    obtain ⟨r1, h1, hm⟩ := obind hm
    refine X_reg_seq ty_ok Γok hL [(1, .c (i_mergeSpans_r r1) (i_mergeSpans_n r1) (i_mergeSpans_o list r1))] (.cons (i_mergeSpans_c h1) .nil) (by kernel_rfl) ?_
    obtain rfl := some_inj hm
    refine Ok_ret ?_
    repeat (first | refine thR ?_ | refine ibR ?_)
    exact X_fin [] [] (by kernel_rfl) trivial
abbrev i_TotalMinutes_r (y : Int × Bool) : AV := .tup [.dat (Enc.e y.1), .dat (Enc.e y.2)]
abbrev i_TotalMinutes_n (y : Int × Bool) : List Obj' := []
abbrev i_TotalMinutes_o (x : (List Span)) (y : Int × Bool) : List Obj' := []
noncomputable def i_TotalMinutes_S : FnSpec := modS [.rd] (fun x : (List Span) => [Enc.e x]) (fun x : (List Span) => []) (fun x : (List Span) => i_TotalMinutes x) i_TotalMinutes_r i_TotalMinutes_n i_TotalMinutes_o
theorem i_TotalMinutes_c {list : List Span} {y : Int × Bool} (h : i_TotalMinutes list = some y) : CallOK i_TotalMinutes_S [Enc.e list] [] (i_TotalMinutes_r y) (i_TotalMinutes_n y) (i_TotalMinutes_o list y) :=
  modS_call (by
    rintro a0 b0 h hO
    have q0 : a0 = b0 := Enc.inj _ _ (congrArg (fun l => List.getD l 0 (.sc undef)) h)
    subst q0; rfl) (x := list) h
theorem i_TotalMinutes_ok : FnOK Try.prog 30 i_TotalMinutes_S := by
  have Γok : ∀ f S, lookF f [(95, i_areSpans_S), (109, i_mergeSpans_S)] = some S → FnOK Try.prog f S := lookF_ok (allF_cons i_areSpans_ok (allF_cons i_mergeSpans_ok allF_nil))
  have Γlive : Live (fun f => lookF f [(95, i_areSpans_S), (109, i_mergeSpans_S)]) := lookF_live (allL_cons modS_live (allL_cons modS_live allL_nil))
  refine fnOK_mod ty_ok (fun args w => Try.call30 args w) Try.func30 rfl [.tmp 2, .tmp 3] (by rw [Try.results30]) 26 Try.ntmps30 16 rfl (fun _ => by first | exact Nat.zero_le _ | (simp)) ?_
  rintro list y cx hm hL
  have hm : i_TotalMinutes list = some y := hm
  have hL : cx.L = 0 := hL
  unfold i_TotalMinutes at hm
  refine X_reg_seq ty_ok Γok hL [] .nil (by kernel_rfl) ?_
  refine Ok_seq ?_
  obtain ⟨r, h, hm⟩ := obind hm
  refine X_reg_seq ty_ok Γok hL [(1, .c (i_areSpans_r r) (i_areSpans_n r) (i_areSpans_o list r))] (.cons (i_areSpans_c h) .nil) (by kernel_rfl) ?_
  refine X_cond (!r) (by kernel_rfl) (fun hc => ?_) (fun hc => ?_)
  · have hm := it hc hm
    refine X_reg_seq ty_ok Γok hL [] .nil (by kernel_rfl) ?_
    obtain rfl := some_inj hm
    refine Ok_ret ?_
    repeat (first | refine thR ?_ | refine ibR ?_)
    exact X_fin [] [] (by kernel_rfl) trivial
  · have hm := ie hc hm
    refine X_skip ?_
    refine thN ?_
    refine X_reg_seq ty_ok Γok hL [] .nil (by kernel_rfl) ?_
    refine Ok_seq ?_
    obtain ⟨r1, h1, hm⟩ := obind hm
    refine X_reg_seq ty_ok Γok hL [(1, .c (i_mergeSpans_r r1) (i_mergeSpans_n r1) (i_mergeSpans_o list r1)), (2, .n (r1.length : Int))] (.cons (i_mergeSpans_c h1) (.cons (len_m Enc.e r1) .nil)) (by kernel_rfl) ?_
    obtain ⟨v2, hv, hk⟩ := obind hm
    refine X_tail (n := 26) (fun (v2 : Int) => (⟨[(4, .dat (.sc (.int .i64 v2)))], [], 32⟩ : X)) v2 ?_ ?_
    · have hm := hv
      refine Ok_block ?_
      refine X_loop (n := 26) (step := i_TotalMinutes_L1 r1) (fun ((v, v1) : Int × Int) => (⟨[(4, .dat (.sc (.int .i64 v))), (11, .own 16), (12, .dat (.sc (.int .i64 (r1.length : Int)))), (13, .dat (.sc (.int .i64 v1)))], [(16, some (.arr 49 2 (List.map Enc.e r1)))], 48⟩ : X)) hm (Wk_J hL ⟨[(4, []), (11, []), (12, []), (13, [])], [(16, 128, [])], [], 48⟩ (by kernel_rfl)) ?_
      rintro ⟨v, v1⟩ r0 hm hb
      rw [i_TotalMinutes_L1] at hm
      refine X_reg_seq ty_ok Γok hL [] .nil (by kernel_rfl) ?_
      refine Ok_seq ?_
      refine X_cond (decide (v1 < (r1.length : Int))) (by kernel_rfl) (fun hc1 => ?_) (fun hc1 => ?_)
      · have hm := it hc1 hm
        refine X_skip ?_
        refine thN ?_
        refine Ok_seq ?_
        refine Ok_block ?_
        obtain ⟨e, h2, hm⟩ := obind hm
        refine X_reg_seq ty_ok Γok hL [(0, .d (Enc.e e)), (1, .d (Enc.e e))] (.cons (idx_m (f := Enc.e) h2) (.cons (idx_m2 (f := Enc.e) h2) .nil)) (by kernel_rfl) ?_
        refine X_reg ty_ok Γok hL [] .nil (by kernel_rfl) ?_
        refine ibN ?_
        refine thN ?_
        refine X_reg ty_ok Γok hL [] .nil (by kernel_rfl) ?_
        obtain rfl := some_inj hm
        exact thN ⟨_, rfl, Wk_J hL ⟨[(4, []), (11, []), (12, []), (13, [])], [(16, 16, [])], [], 48⟩ (by kernel_rfl)⟩
      · have hm := ie hc1 hm
        obtain rfl := some_inj hm
        obtain rfl := hb _ rfl
        refine Ok_exit ?_
        refine thE ?_
        refine thE ?_
        refine ibE ?_
        exact thN (Wk_J hL ⟨[(4, [])], [], [], 32⟩ (by kernel_rfl))
    intro s hw
    have hm := hk
    refine thN ?_
    refine Ok_weak hw ?_
    refine X_reg_seq ty_ok Γok hL [] .nil (by kernel_rfl) ?_
    obtain rfl := some_inj hm
    refine Ok_ret ?_
    repeat (first | refine thR ?_ | refine ibR ?_)
    exact X_fin [] [] (by kernel_rfl) trivial
abbrev i_BusiestTime_r (y : Int × Int × Bool) : AV := .tup [.dat (Enc.e y.1), .dat (Enc.e y.2.1), .dat (Enc.e y.2.2)]
abbrev i_BusiestTime_n (y : Int × Int × Bool) : List Obj' := []
abbrev i_BusiestTime_o (x : (List Span)) (y : Int × Int × Bool) : List Obj' := []
noncomputable def i_BusiestTime_S : FnSpec := modS [.rd] (fun x : (List Span) => [Enc.e x]) (fun x : (List Span) => []) (fun x : (List Span) => i_BusiestTime x) i_BusiestTime_r i_BusiestTime_n i_BusiestTime_o
theorem i_BusiestTime_c {list : List Span} {y : Int × Int × Bool} (h : i_BusiestTime list = some y) : CallOK i_BusiestTime_S [Enc.e list] [] (i_BusiestTime_r y) (i_BusiestTime_n y) (i_BusiestTime_o list y) :=
  modS_call (by
    rintro a0 b0 h hO
    have q0 : a0 = b0 := Enc.inj _ _ (congrArg (fun l => List.getD l 0 (.sc undef)) h)
    subst q0; rfl) (x := list) h
theorem i_BusiestTime_ok : FnOK Try.prog 31 i_BusiestTime_S := by
  have Γok : ∀ f S, lookF f [(95, i_areSpans_S)] = some S → FnOK Try.prog f S := lookF_ok (allF_cons i_areSpans_ok allF_nil)
  have Γlive : Live (fun f => lookF f [(95, i_areSpans_S)]) := lookF_live (allL_cons modS_live allL_nil)
  refine fnOK_mod ty_ok (fun args w => Try.call31 args w) Try.func31 rfl [.tmp 2, .tmp 3, .tmp 4] (by rw [Try.results31]) 66 Try.ntmps31 16 rfl (fun _ => by first | exact Nat.zero_le _ | (simp)) ?_
  rintro list y cx hm hL
  have hm : i_BusiestTime list = some y := hm
  have hL : cx.L = 0 := hL
  unfold i_BusiestTime at hm
  refine X_reg_seq ty_ok Γok hL [] .nil (by kernel_rfl) ?_
  refine Ok_seq ?_
  obtain ⟨r, h, hm⟩ := obind hm
  refine X_reg_seq ty_ok Γok hL [(1, .c (i_areSpans_r r) (i_areSpans_n r) (i_areSpans_o list r))] (.cons (i_areSpans_c h) .nil) (by kernel_rfl) ?_
  refine X_cond (!r) (by kernel_rfl) (fun hc => ?_) (fun hc => ?_)
  · have hm := it hc hm
    refine X_reg_seq ty_ok Γok hL [] .nil (by kernel_rfl) ?_
    obtain rfl := some_inj hm
    refine Ok_ret ?_
    repeat (first | refine thR ?_ | refine ibR ?_)
    exact X_fin [] [] (by kernel_rfl) trivial
  · have hm := ie hc hm
    refine X_skip ?_
    refine thN ?_
    refine X_reg_seq ty_ok Γok hL [] .nil (by kernel_rfl) ?_
    refine Ok_seq ?_
    refine X_reg_seq ty_ok Γok hL [(1, .n (list.length : Int))] (.cons (len_m Enc.e list) .nil) (by kernel_rfl) ?_
    obtain ⟨vv1, hv5, hk5⟩ := obind hm
    refine X_tail (n := 66) (fun ((most2, v9) : Int × Int) => (⟨[(5, .dat (.sc (.int .i64 most2))), (6, .dat (.sc (.int .i64 v9)))], [], 32⟩ : X)) vv1 ?_ ?_
    · have hm := hv5
      refine Ok_block ?_
      refine X_loop (n := 66) (step := i_BusiestTime_L2 list) (fun ((most, v, v1) : Int × Int × Int) => (⟨[(0, .dat (Enc.e list)), (5, .dat (.sc (.int .i64 most))), (6, .dat (.sc (.int .i64 v))), (15, .dat (Enc.e list)), (16, .dat (.sc (.int .i64 (list.length : Int)))), (17, .dat (.sc (.int .i64 v1)))], [], 32⟩ : X)) hm (Wk_J hL ⟨[(0, []), (5, []), (6, []), (15, []), (16, []), (17, [])], [], [], 32⟩ (by kernel_rfl)) ?_
      rintro ⟨most, v, v1⟩ r0 hm hb
      rw [i_BusiestTime_L2] at hm
      refine X_reg_seq ty_ok Γok hL [] .nil (by kernel_rfl) ?_
      refine Ok_seq ?_
      refine X_cond (decide (v1 < (list.length : Int))) (by kernel_rfl) (fun hc1 => ?_) (fun hc1 => ?_)
      · have hm := it hc1 hm
        refine X_skip ?_
        refine thN ?_
        obtain ⟨vv, hv, hk⟩ := obind hm
        refine X_join (n := 66) (fun ((most1, v2) : Int × Int) => (⟨[(0, .dat (Enc.e list)), (5, .dat (.sc (.int .i64 most1))), (6, .dat (.sc (.int .i64 v2))), (15, .dat (Enc.e list)), (16, .dat (.sc (.int .i64 (list.length : Int)))), (17, .dat (.sc (.int .i64 v1)))], [], 32⟩ : X)) vv ?_ ?_
        · have hm := hv
          refine Ok_block ?_
          obtain ⟨e, h1, hm⟩ := obind hm
          refine X_reg_seq ty_ok Γok hL [(0, .d (Enc.e e))] (.cons (idx_m (f := Enc.e) h1) .nil) (by kernel_rfl) ?_
          refine X_reg_seq ty_ok Γok hL [] .nil (by kernel_rfl) ?_
          refine Ok_seq ?_
          refine X_reg_seq ty_ok Γok hL [(1, .n (list.length : Int))] (.cons (len_m Enc.e list) .nil) (by kernel_rfl) ?_
          obtain ⟨v7, hv3, hk3⟩ := obind hm
          refine X_tail (n := 66) (fun (v7 : Int) => (⟨[(0, .dat (Enc.e list)), (5, .dat (.sc (.int .i64 most))), (6, .dat (.sc (.int .i64 v))), (8, .ref 16 0), (9, .dat (.sc (.int .i64 v7))), (15, .dat (Enc.e list)), (16, .dat (.sc (.int .i64 (list.length : Int)))), (17, .dat (.sc (.int .i64 v1)))], [(16, some (.box [.dat (.sc (.int .i64 e.From)), .dat (.sc (.int .i64 e.To))]))], 48⟩ : X)) v7 ?_ ?_
          · have hm := hv3
            refine Ok_block ?_
            refine X_loop (n := 66) (step := i_BusiestTime_L1 list e) (fun ((v3, v4) : Int × Int) => (⟨[(0, .dat (Enc.e list)), (5, .dat (.sc (.int .i64 most))), (6, .dat (.sc (.int .i64 v))), (8, .ref 16 0), (9, .dat (.sc (.int .i64 v3))), (15, .dat (Enc.e list)), (16, .dat (.sc (.int .i64 (list.length : Int)))), (17, .dat (.sc (.int .i64 v1))), (21, .dat (Enc.e list)), (22, .dat (.sc (.int .i64 (list.length : Int)))), (23, .dat (.sc (.int .i64 v4)))], [(16, some (.box [.dat (.sc (.int .i64 e.From)), .dat (.sc (.int .i64 e.To))]))], 48⟩ : X)) hm (Wk_J hL ⟨[(0, []), (5, []), (6, []), (8, []), (9, []), (15, []), (16, []), (17, []), (21, []), (22, []), (23, [])], [(16, 80, [])], [], 48⟩ (by kernel_rfl)) ?_
            rintro ⟨v3, v4⟩ r0 hm hb1
            rw [i_BusiestTime_L1] at hm
            refine X_reg_seq ty_ok Γok hL [] .nil (by kernel_rfl) ?_
            refine Ok_seq ?_
            refine X_cond (decide (v4 < (list.length : Int))) (by kernel_rfl) (fun hc2 => ?_) (fun hc2 => ?_)
            · have hm := it hc2 hm
              refine X_skip ?_
              refine thN ?_
              obtain ⟨v5, hv1, hk1⟩ := obind hm
              refine X_join (n := 66) (fun (v5 : Int) => (⟨[(0, .dat (Enc.e list)), (5, .dat (.sc (.int .i64 most))), (6, .dat (.sc (.int .i64 v))), (8, .ref 16 0), (9, .dat (.sc (.int .i64 v5))), (15, .dat (Enc.e list)), (16, .dat (.sc (.int .i64 (list.length : Int)))), (17, .dat (.sc (.int .i64 v1))), (21, .dat (Enc.e list)), (22, .dat (.sc (.int .i64 (list.length : Int)))), (23, .dat (.sc (.int .i64 v4)))], [(16, some (.box [.dat (.sc (.int .i64 e.From)), .dat (.sc (.int .i64 e.To))]))], 48⟩ : X)) v5 ?_ ?_
              · have hm := hv1
                refine Ok_block ?_
                obtain ⟨e1, h2, hm⟩ := obind hm
                refine X_reg_seq ty_ok Γok hL [(0, .d (Enc.e e1))] (.cons (idx_m (f := Enc.e) h2) .nil) (by kernel_rfl) ?_
                obtain ⟨v6, hv2, hk2⟩ := obind hm
                refine X_join (n := 66) (fun (v6 : Bool) => (⟨[(0, .dat (Enc.e list)), (5, .dat (.sc (.int .i64 most))), (6, .dat (.sc (.int .i64 v))), (8, .ref 16 0), (9, .dat (.sc (.int .i64 v3))), (15, .dat (Enc.e list)), (16, .dat (.sc (.int .i64 (list.length : Int)))), (17, .dat (.sc (.int .i64 v1))), (21, .dat (Enc.e list)), (22, .dat (.sc (.int .i64 (list.length : Int)))), (23, .dat (.sc (.int .i64 v4))), (38, .dat (.sc (.bool v6)))], [(16, some (.box [.dat (.sc (.int .i64 e.From)), .dat (.sc (.int .i64 e.To))]))], 48⟩ : X)) v6 ?_ ?_
                · have hm := hv2
                  rcases btf (decide (e1.From ≤ e.From)) with hb2 | hb2
                  · have hm := it hb2 hm
                    obtain rfl := some_inj hm
                    refine X_reg ty_ok Γok hL [(5, .b true)] (.cons hb2 .nil) (by kernel_rfl) ?_
                    exact thN (Wk_J hL ⟨[(0, []), (5, []), (6, []), (8, []), (9, []), (15, []), (16, []), (17, []), (21, []), (22, []), (23, []), (38, [])], [(16, 16, [])], [], 48⟩ (by kernel_rfl))
                  · have hm := ie hb2 hm
                    obtain rfl := some_inj hm
                    refine X_reg ty_ok Γok hL [(5, .b false)] (.cons hb2 .nil) (by kernel_rfl) ?_
                    exact thN (Wk_J hL ⟨[(0, []), (5, []), (6, []), (8, []), (9, []), (15, []), (16, []), (17, []), (21, []), (22, []), (23, []), (38, [])], [(16, 16, [])], [], 48⟩ (by kernel_rfl))
                have hm := hk2
                refine X_cond v6 (by kernel_rfl) (fun hc3 => ?_) (fun hc3 => ?_)
                · have hm := it hc3 hm
                  refine X_reg ty_ok Γok hL [] .nil (by kernel_rfl) ?_
                  refine ibN ?_
                  obtain rfl := some_inj hm
                  exact thN (Wk_J hL ⟨[(0, []), (5, []), (6, []), (8, []), (9, []), (15, []), (16, []), (17, []), (21, []), (22, []), (23, [])], [(16, 16, [])], [], 48⟩ (by kernel_rfl))
                · have hm := ie hc3 hm
                  refine X_skip ?_
                  refine ibN ?_
                  obtain rfl := some_inj hm
                  exact thN (Wk_J hL ⟨[(0, []), (5, []), (6, []), (8, []), (9, []), (15, []), (16, []), (17, []), (21, []), (22, []), (23, [])], [(16, 16, [])], [], 48⟩ (by kernel_rfl))
              have hm := hk1
              refine X_reg ty_ok Γok hL [] .nil (by kernel_rfl) ?_
              obtain rfl := some_inj hm
              exact thN ⟨_, rfl, Wk_J hL ⟨[(0, []), (5, []), (6, []), (8, []), (9, []), (15, []), (16, []), (17, []), (21, []), (22, []), (23, [])], [(16, 16, [])], [], 48⟩ (by kernel_rfl)⟩
            · have hm := ie hc2 hm
              obtain rfl := some_inj hm
              obtain rfl := hb1 _ rfl
              refine Ok_exit ?_
              refine thE ?_
              refine thE ?_
              refine ibE ?_
              exact thN (Wk_J hL ⟨[(0, []), (5, []), (6, []), (8, []), (9, []), (15, []), (16, []), (17, [])], [(16, 16, [])], [], 48⟩ (by kernel_rfl))
          intro s hw
          have hm := hk3
          refine thN ?_
          refine Ok_weak hw ?_
          obtain ⟨v8, hv4, hk4⟩ := obind hm
          refine X_join (n := 66) (fun (v8 : Bool) => (⟨[(0, .dat (Enc.e list)), (5, .dat (.sc (.int .i64 most))), (6, .dat (.sc (.int .i64 v))), (8, .ref 16 0), (9, .dat (.sc (.int .i64 v7))), (15, .dat (Enc.e list)), (16, .dat (.sc (.int .i64 (list.length : Int)))), (17, .dat (.sc (.int .i64 v1))), (59, .dat (.sc (.bool v8)))], [(16, some (.box [.dat (.sc (.int .i64 e.From)), .dat (.sc (.int .i64 e.To))]))], 48⟩ : X)) v8 ?_ ?_
          · have hm := hv4
            rcases btf (decide (v < v7)) with hb3 | hb3
            · have hm := it hb3 hm
              obtain rfl := some_inj hm
              refine X_reg ty_ok Γok hL [(3, .b true)] (.cons hb3 .nil) (by kernel_rfl) ?_
              exact thN (Wk_J hL ⟨[(0, []), (5, []), (6, []), (8, []), (9, []), (15, []), (16, []), (17, []), (59, [])], [(16, 16, [])], [], 48⟩ (by kernel_rfl))
            · have hm := ie hb3 hm
              rcases btf (v7 == v) with hb4 | hb4
              · have hm := it hb4 hm
                rcases btf (decide (0 < v7)) with hb5 | hb5
                · have hm := it hb5 hm
                  obtain rfl := some_inj hm
                  refine X_reg ty_ok Γok hL [(3, .b false), (7, .b true), (11, .b true)] (.cons hb3 (.cons hb4 (.cons hb5 .nil))) (by kernel_rfl) ?_
                  exact thN (Wk_J hL ⟨[(0, []), (5, []), (6, []), (8, []), (9, []), (15, []), (16, []), (17, []), (59, [])], [(16, 16, [])], [], 48⟩ (by kernel_rfl))
                · have hm := ie hb5 hm
                  obtain rfl := some_inj hm
                  refine X_reg ty_ok Γok hL [(3, .b false), (7, .b true), (11, .b false)] (.cons hb3 (.cons hb4 (.cons hb5 .nil))) (by kernel_rfl) ?_
                  exact thN (Wk_J hL ⟨[(0, []), (5, []), (6, []), (8, []), (9, []), (15, []), (16, []), (17, []), (59, [])], [(16, 16, [])], [], 48⟩ (by kernel_rfl))
              · have hm := ie hb4 hm
                obtain rfl := some_inj hm
                refine X_reg ty_ok Γok hL [(3, .b false), (7, .b false)] (.cons hb3 (.cons hb4 .nil)) (by kernel_rfl) ?_
                exact thN (Wk_J hL ⟨[(0, []), (5, []), (6, []), (8, []), (9, []), (15, []), (16, []), (17, []), (59, [])], [(16, 16, [])], [], 48⟩ (by kernel_rfl))
          have hm := hk4
          refine X_cond v8 (by kernel_rfl) (fun hc4 => ?_) (fun hc4 => ?_)
          · have hm := it hc4 hm
            refine X_reg ty_ok Γok hL [] .nil (by kernel_rfl) ?_
            refine ibN ?_
            obtain rfl := some_inj hm
            exact thN (Wk_J hL ⟨[(0, []), (5, []), (6, []), (15, []), (16, []), (17, [])], [], [], 32⟩ (by kernel_rfl))
          · have hm := ie hc4 hm
            refine X_skip ?_
            refine ibN ?_
            obtain rfl := some_inj hm
            exact thN (Wk_J hL ⟨[(0, []), (5, []), (6, []), (15, []), (16, []), (17, [])], [], [], 32⟩ (by kernel_rfl))
        obtain ⟨most1, v2⟩ := vv
        have hm := hk
        refine X_reg ty_ok Γok hL [] .nil (by kernel_rfl) ?_
        obtain rfl := some_inj hm
        exact thN ⟨_, rfl, Wk_J hL ⟨[(0, []), (5, []), (6, []), (15, []), (16, []), (17, [])], [], [], 32⟩ (by kernel_rfl)⟩
      · have hm := ie hc1 hm
        obtain rfl := some_inj hm
        obtain rfl := hb _ rfl
        refine Ok_exit ?_
        refine thE ?_
        refine thE ?_
        refine ibE ?_
        exact thN (Wk_J hL ⟨[(5, []), (6, [])], [], [], 32⟩ (by kernel_rfl))
    obtain ⟨most2, v9⟩ := vv1
    intro s1 hw1
    have hm := hk5
    refine thN ?_
    refine Ok_weak hw1 ?_
    refine X_reg_seq ty_ok Γok hL [] .nil (by kernel_rfl) ?_
    obtain rfl := some_inj hm
    refine Ok_ret ?_
    repeat (first | refine thR ?_ | refine ibR ?_)
    exact X_fin [] [] (by kernel_rfl) trivial
abbrev s_MergeSpans_r (y : (List Span) × Bool) : AV := .tup [.own 0, .dat (Enc.e y.2)]
abbrev s_MergeSpans_n (y : (List Span) × Bool) : List Obj' := [.arr 49 2 (List.map Enc.e y.1)]
abbrev s_MergeSpans_o (x : (List Span)) (y : (List Span) × Bool) : List Obj' := []
noncomputable def s_MergeSpans_S : FnSpec := modS [.rd] (fun x : (List Span) => [Enc.e x]) (fun x : (List Span) => []) (fun x : (List Span) => s_MergeSpans x) s_MergeSpans_r s_MergeSpans_n s_MergeSpans_o
theorem s_MergeSpans_c {list : List Span} {y : (List Span) × Bool} (h : s_MergeSpans list = some y) : CallOK s_MergeSpans_S [Enc.e list] [] (s_MergeSpans_r y) (s_MergeSpans_n y) (s_MergeSpans_o list y) :=
  modS_call (by
    rintro a0 b0 h hO
    have q0 : a0 = b0 := Enc.inj _ _ (congrArg (fun l => List.getD l 0 (.sc undef)) h)
    subst q0; rfl) (x := list) h
theorem s_MergeSpans_ok : FnOK Try.prog 32 s_MergeSpans_S := by
  have Γok : ∀ f S, lookF f [(110, s_l4Spans_S), (113, s_l4Counts_S), (112, s_l4Runs_S)] = some S → FnOK Try.prog f S := lookF_ok (allF_cons s_l4Spans_ok (allF_cons s_l4Counts_ok (allF_cons s_l4Runs_ok allF_nil)))
  have Γlive : Live (fun f => lookF f [(110, s_l4Spans_S), (113, s_l4Counts_S), (112, s_l4Runs_S)]) := lookF_live (allL_cons modS_live (allL_cons modS_live (allL_cons modS_live allL_nil)))
  refine fnOK_mod ty_ok (fun args w => Try.call32 args w) Try.func32 rfl [.tmp 2, .tmp 3] (by rw [Try.results32]) 12 Try.ntmps32 16 rfl (fun _ => by first | exact Nat.zero_le _ | (simp)) ?_
  rintro list y cx hm hL
  have hm : s_MergeSpans list = some y := hm
  have hL : cx.L = 0 := hL
  unfold s_MergeSpans at hm
  refine X_reg_seq ty_ok Γok hL [] .nil (by kernel_rfl) ?_
  refine Ok_seq ?_
  obtain ⟨r, h, hm⟩ := obind hm
  refine X_reg_seq ty_ok Γok hL [(1, .c (s_l4Spans_r r) (s_l4Spans_n r) (s_l4Spans_o list r))] (.cons (s_l4Spans_c h) .nil) (by kernel_rfl) ?_
  refine X_cond (!r) (by kernel_rfl) (fun hc => ?_) (fun hc => ?_)
  · have hm := it hc hm
    refine X_reg_seq ty_ok Γok hL [] .nil (by kernel_rfl) ?_
    obtain rfl := some_inj hm
    refine Ok_ret ?_
    repeat (first | refine thR ?_ | refine ibR ?_)
    exact X_fin [96] [] (by kernel_rfl) trivial
  · have hm := ie hc hm
    refine X_skip ?_
    refine thN ?_
    obtain ⟨r1, h1, hm⟩ := obind hm
    obtain ⟨r2, h2, hm⟩ := obind hm
    refine X_reg_seq ty_ok Γok hL [(1, .c (s_l4Counts_r r1) (s_l4Counts_n r1) (s_l4Counts_o list r1)), (3, .cf (s_l4Runs_r r2) (s_l4Runs_n r2) (s_l4Runs_o (r1, (⟨0, 1799⟩ : Span), true) r2))] (.cons (s_l4Counts_c h1) (.cons (s_l4Runs_c h2) (.cons (show FlatRes (s_l4Runs_n r2) (s_l4Runs_o (r1, (⟨0, 1799⟩ : Span), true) r2) from ⟨(flat_cons flat_arr flat_nil), flat_nil⟩) .nil))) (by kernel_rfl) ?_
    obtain rfl := some_inj hm
    refine Ok_ret ?_
    repeat (first | refine thR ?_ | refine ibR ?_)
    exact X_fin [144] [] (by kernel_rfl) trivial
abbrev i_OverlapOf_r (y : Span × Bool × Bool) : AV := .tup [.dat (Enc.e y.1), .dat (Enc.e y.2.1), .dat (Enc.e y.2.2)]
abbrev i_OverlapOf_n (y : Span × Bool × Bool) : List Obj' := []
abbrev i_OverlapOf_o (x : Span × Span) (y : Span × Bool × Bool) : List Obj' := []
noncomputable def i_OverlapOf_S : FnSpec := modS [.rd, .rd] (fun x : Span × Span => [Enc.e x.1, Enc.e x.2]) (fun x : Span × Span => []) (fun x : Span × Span => i_OverlapOf x.1 x.2) i_OverlapOf_r i_OverlapOf_n i_OverlapOf_o
theorem i_OverlapOf_c {a : Span} {b : Span} {y : Span × Bool × Bool} (h : i_OverlapOf a b = some y) : CallOK i_OverlapOf_S [Enc.e a, Enc.e b] [] (i_OverlapOf_r y) (i_OverlapOf_n y) (i_OverlapOf_o (a, b) y) :=
  modS_call (by
    rintro ⟨a0, a1⟩ ⟨b0, b1⟩ h hO
    have q0 : a0 = b0 := Enc.inj _ _ (congrArg (fun l => List.getD l 0 (.sc undef)) h)
    have q1 : a1 = b1 := Enc.inj _ _ (congrArg (fun l => List.getD l 1 (.sc undef)) h)
    subst q0; subst q1; rfl) (x := (a, b)) h
theorem i_OverlapOf_ok : FnOK Try.prog 33 i_OverlapOf_S := by
  have Γok : ∀ f S, lookF f [(108, i_isSpan_S)] = some S → FnOK Try.prog f S := lookF_ok (allF_cons i_isSpan_ok allF_nil)
  have Γlive : Live (fun f => lookF f [(108, i_isSpan_S)]) := lookF_live (allL_cons modS_live allL_nil)
  refine fnOK_mod ty_ok (fun args w => Try.call33 args w) Try.func33 rfl [.cell 4 49, .tmp 5, .tmp 6] (by rw [Try.results33]) 35 Try.ntmps33 16 rfl (fun _ => by first | exact Nat.zero_le _ | (simp)) ?_
  rintro ⟨a, b⟩ y cx hm hL
  have hm : i_OverlapOf a b = some y := hm
  have hL : cx.L = 0 := hL
  unfold i_OverlapOf at hm
  refine X_reg_seq ty_ok Γok hL [] .nil (by kernel_rfl) ?_
  refine Ok_seq ?_
  obtain ⟨r, h, hm⟩ := obind hm
  obtain ⟨v, hv, hk⟩ := obind hm
  refine X_join (n := 35) (fun (v : Bool) => (⟨[(2, .ref 16 0), (3, .ref 32 0), (4, .ref 48 0), (15, .dat (.sc (.bool v)))], [(16, some (.box [.dat (.sc (.int .i64 a.From)), .dat (.sc (.int .i64 a.To))])), (32, some (.box [.dat (.sc (.int .i64 b.From)), .dat (.sc (.int .i64 b.To))])), (48, some (.box [.dat (.sc (.int .i64 0)), .dat (.sc (.int .i64 0))]))], 80⟩ : X)) v ?_ ?_
  · have hm := hv
    rcases btf (!r) with hb | hb
    · have hm := it hb hm
      obtain rfl := some_inj hm
      refine X_reg ty_ok Γok hL [(1, .c (i_isSpan_r r) (i_isSpan_n r) (i_isSpan_o a r)), (3, .b true)] (.cons (i_isSpan_c h) (.cons hb .nil)) (by kernel_rfl) ?_
      exact thN (Wk_J hL ⟨[(2, []), (3, []), (4, []), (15, [])], [(16, 16, []), (32, 32, []), (48, 48, [])], [], 80⟩ (by kernel_rfl))
    · have hm := ie hb hm
      obtain ⟨r1, h1, hm⟩ := obind hm
      obtain rfl := some_inj hm
      refine X_reg ty_ok Γok hL [(1, .c (i_isSpan_r r) (i_isSpan_n r) (i_isSpan_o a r)), (3, .b false), (5, .c (i_isSpan_r r1) (i_isSpan_n r1) (i_isSpan_o b r1))] (.cons (i_isSpan_c h) (.cons hb (.cons (i_isSpan_c h1) .nil))) (by kernel_rfl) ?_
      exact thN (Wk_J hL ⟨[(2, []), (3, []), (4, []), (15, [])], [(16, 16, []), (32, 32, []), (48, 48, [])], [], 80⟩ (by kernel_rfl))
  have hm := hk
  refine X_cond v (by kernel_rfl) (fun hc => ?_) (fun hc => ?_)
  · have hm := it hc hm
    refine X_reg_seq ty_ok Γok hL [] .nil (by kernel_rfl) ?_
    obtain rfl := some_inj hm
    refine Ok_ret ?_
    repeat (first | refine thR ?_ | refine ibR ?_)
    exact X_fin [] [] (by kernel_rfl) trivial
  · have hm := ie hc hm
    refine X_skip ?_
    refine thN ?_
    refine X_reg_seq ty_ok Γok hL [] .nil (by kernel_rfl) ?_
    refine Ok_seq ?_
    refine X_reg_seq ty_ok Γok hL [] .nil (by kernel_rfl) ?_
    refine X_cond (decide ((if b.To < a.To then b.To else a.To) ≤ (if b.From > a.From then b.From else a.From))) (by kernel_rfl) (fun hc1 => ?_) (fun hc1 => ?_)
    · have hm := it hc1 hm
      refine X_reg_seq ty_ok Γok hL [] .nil (by kernel_rfl) ?_
      obtain rfl := some_inj hm
      refine Ok_ret ?_
      repeat (first | refine thR ?_ | refine ibR ?_)
      exact X_fin [] [] (by kernel_rfl) trivial
    · have hm := ie hc1 hm
      refine X_skip ?_
      refine thN ?_
      refine X_reg_seq ty_ok Γok hL [] .nil (by kernel_rfl) ?_
      obtain rfl := some_inj hm
      refine Ok_ret ?_
      repeat (first | refine thR ?_ | refine ibR ?_)
      exact X_fin [] [] (by kernel_rfl) trivial
abbrev v_FnSpans_r (y : Bool) : AV := .dat (Enc.e y)
abbrev v_FnSpans_n (y : Bool) : List Obj' := []
abbrev v_FnSpans_o (x : (List UInt8)) (y : Bool) : List Obj' := []
noncomputable def v_FnSpans_S : FnSpec := modS [.rd] (fun x : (List UInt8) => [Enc.e x]) (fun x : (List UInt8) => []) (fun x : (List UInt8) => v_FnSpans x) v_FnSpans_r v_FnSpans_n v_FnSpans_o
theorem v_FnSpans_c {code : List UInt8} {y : Bool} (h : v_FnSpans code = some y) : CallOK v_FnSpans_S [Enc.e code] [] (v_FnSpans_r y) (v_FnSpans_n y) (v_FnSpans_o code y) :=
  modS_call (by
    rintro a0 b0 h hO
    have q0 : a0 = b0 := Enc.inj _ _ (congrArg (fun l => List.getD l 0 (.sc undef)) h)
    subst q0; rfl) (x := code) h
theorem v_FnSpans_ok : FnOK Try.prog 4 v_FnSpans_S := by
  have Γok : ∀ f S, lookF f [(24, v_vBig_S), (25, s_DrawFreeSpans_S), (26, i_FreeSpans_S), (27, s_FreeSpans_S), (28, v_vSpans_S), (29, i_MergeSpans_S), (30, i_TotalMinutes_S), (31, i_BusiestTime_S), (32, s_MergeSpans_S), (33, i_OverlapOf_S)] = some S → FnOK Try.prog f S := lookF_ok (allF_cons v_vBig_ok (allF_cons s_DrawFreeSpans_ok (allF_cons i_FreeSpans_ok (allF_cons s_FreeSpans_ok (allF_cons v_vSpans_ok (allF_cons i_MergeSpans_ok (allF_cons i_TotalMinutes_ok (allF_cons i_BusiestTime_ok (allF_cons s_MergeSpans_ok (allF_cons i_OverlapOf_ok allF_nil))))))))))
  have Γlive : Live (fun f => lookF f [(24, v_vBig_S), (25, s_DrawFreeSpans_S), (26, i_FreeSpans_S), (27, s_FreeSpans_S), (28, v_vSpans_S), (29, i_MergeSpans_S), (30, i_TotalMinutes_S), (31, i_BusiestTime_S), (32, s_MergeSpans_S), (33, i_OverlapOf_S)]) := lookF_live (allL_cons modS_live (allL_cons modS_live (allL_cons modS_live (allL_cons modS_live (allL_cons modS_live (allL_cons modS_live (allL_cons modS_live (allL_cons modS_live (allL_cons modS_live (allL_cons modS_live allL_nil))))))))))
  refine fnOK_mod ty_ok (fun args w => Try.call4 args w) Try.func4 rfl [.tmp 2] (by rw [Try.results4]) 181 Try.ntmps4 16 rfl (fun _ => by first | exact Nat.zero_le _ | (simp)) ?_
  rintro code y cx hm hL
  have hm : v_FnSpans code = some y := hm
  have hL : cx.L = 0 := hL
  unfold v_FnSpans at hm
  refine X_reg_seq ty_ok Γok hL [] .nil (by kernel_rfl) ?_
  refine Ok_seq ?_
  obtain ⟨r, h, hm⟩ := obind hm
  refine X_reg_seq ty_ok Γok hL [(1, .c (v_vBig_r r) (v_vBig_n r) (v_vBig_o code r))] (.cons (v_vBig_c h) .nil) (by kernel_rfl) ?_
  refine X_cond r (by kernel_rfl) (fun hc => ?_) (fun hc => ?_)
  · have hm := it hc hm
    refine X_reg_seq ty_ok Γok hL [] .nil (by kernel_rfl) ?_
    obtain rfl := some_inj hm
    refine Ok_ret ?_
    repeat (first | refine thR ?_ | refine ibR ?_)
    exact X_fin [] [] (by kernel_rfl) trivial
  · have hm := ie hc hm
    refine X_skip ?_
    refine thN ?_
    obtain ⟨r1, h1, hm⟩ := obind hm
    refine X_reg_seq ty_ok Γok hL [(1, .c (s_DrawFreeSpans_r r1) (s_DrawFreeSpans_n r1) (s_DrawFreeSpans_o code r1))] (.cons (s_DrawFreeSpans_c h1) .nil) (by kernel_rfl) ?_
    obtain ⟨r2, h2, hm⟩ := obind hm
    refine X_reg_seq ty_ok Γok hL [(2, .fz [80] [] []), (2, .c (i_FreeSpans_r r2) (i_FreeSpans_n r2) (i_FreeSpans_o (r1.1, r1.2) r2))] (.cons (i_FreeSpans_c h2) .nil) (by kernel_rfl) ?_
    refine Ok_seq ?_
    obtain ⟨r3, h3, hm⟩ := obind hm
    refine X_reg_seq ty_ok Γok hL [(2, .c (s_FreeSpans_r r3) (s_FreeSpans_n r3) (s_FreeSpans_o (r1.1, r1.2) r3))] (.cons (s_FreeSpans_c h3) .nil) (by kernel_rfl) ?_
    obtain ⟨v, hv, hk⟩ := obind hm
    refine X_join (n := 181) (fun (v : Bool) => (⟨[(3, .dat (Enc.e r1.1)), (5, .dat (Enc.e r2.1)), (6, .dat (.sc (.bool r2.2))), (51, .dat (.sc (.bool v)))], [], 32⟩ : X)) v ?_ ?_
    · have hm := hv
      rcases btf (!(r2.2 == r3.2)) with hb | hb
      · have hm := it hb hm
        obtain rfl := some_inj hm
        refine X_reg ty_ok Γok hL [(3, .b true)] (.cons hb .nil) (by kernel_rfl) ?_
        exact thN (Wk_J hL ⟨[(3, []), (5, []), (6, []), (51, [])], [], [], 32⟩ (by kernel_rfl))
      · have hm := ie hb hm
        obtain ⟨r4, h4, hm⟩ := obind hm
        obtain rfl := some_inj hm
        refine X_reg ty_ok Γok hL [(3, .b false), (6, .c (v_vSpans_r r4) (v_vSpans_n r4) (v_vSpans_o (r2.1, r3.1) r4))] (.cons hb (.cons (v_vSpans_c h4) .nil)) (by kernel_rfl) ?_
        exact thN (Wk_J hL ⟨[(3, []), (5, []), (6, []), (51, [])], [], [], 32⟩ (by kernel_rfl))
    have hm := hk
    refine X_cond v (by kernel_rfl) (fun hc1 => ?_) (fun hc1 => ?_)
    · have hm := it hc1 hm
      refine X_reg_seq ty_ok Γok hL [] .nil (by kernel_rfl) ?_
      obtain rfl := some_inj hm
      refine Ok_ret ?_
      repeat (first | refine thR ?_ | refine ibR ?_)
      exact X_fin [] [] (by kernel_rfl) trivial
    · have hm := ie hc1 hm
      refine X_skip ?_
      refine thN ?_
      obtain ⟨r5, h5, hm⟩ := obind hm
      refine X_reg_seq ty_ok Γok hL [(1, .c (i_MergeSpans_r r5) (i_MergeSpans_n r5) (i_MergeSpans_o r1.1 r5))] (.cons (i_MergeSpans_c h5) .nil) (by kernel_rfl) ?_
      obtain ⟨r6, h6, hm⟩ := obind hm
      refine X_reg_seq ty_ok Γok hL [(1, .c (i_TotalMinutes_r r6) (i_TotalMinutes_n r6) (i_TotalMinutes_o r1.1 r6))] (.cons (i_TotalMinutes_c h6) .nil) (by kernel_rfl) ?_
      obtain ⟨r7, h7, hm⟩ := obind hm
      refine X_reg_seq ty_ok Γok hL [(1, .c (i_BusiestTime_r r7) (i_BusiestTime_n r7) (i_BusiestTime_o r1.1 r7))] (.cons (i_BusiestTime_c h7) .nil) (by kernel_rfl) ?_
      refine Ok_seq ?_
      obtain ⟨r8, h8, hm⟩ := obind hm
      refine X_reg_seq ty_ok Γok hL [(1, .c (s_MergeSpans_r r8) (s_MergeSpans_n r8) (s_MergeSpans_o r1.1 r8))] (.cons (s_MergeSpans_c h8) .nil) (by kernel_rfl) ?_
      obtain ⟨v1, hv1, hk1⟩ := obind hm
      refine X_join (n := 181) (fun (v1 : Bool) => (⟨[(5, .dat (Enc.e r2.1)), (6, .dat (.sc (.bool r2.2))), (9, .dat (Enc.e r5.1)), (10, .dat (.sc (.bool r5.2))), (11, .dat (.sc (.int .i64 r6.1))), (14, .dat (.sc (.int .i64 r7.2.1))), (91, .dat (.sc (.bool v1)))], [], 32⟩ : X)) v1 ?_ ?_
      · have hm := hv1
        rcases btf (!(r5.2 == r8.2)) with hb1 | hb1
        · have hm := it hb1 hm
          obtain rfl := some_inj hm
          refine X_reg ty_ok Γok hL [(3, .b true)] (.cons hb1 .nil) (by kernel_rfl) ?_
          exact thN (Wk_J hL ⟨[(5, []), (6, []), (9, []), (10, []), (11, []), (14, []), (91, [])], [], [], 32⟩ (by kernel_rfl))
        · have hm := ie hb1 hm
          obtain ⟨r9, h9, hm⟩ := obind hm
          rcases btf (!r9) with hb2 | hb2
          · have hm := it hb2 hm
            obtain rfl := some_inj hm
            refine X_reg ty_ok Γok hL [(3, .b false), (6, .c (v_vSpans_r r9) (v_vSpans_n r9) (v_vSpans_o (r5.1, r8.1) r9)), (9, .b true)] (.cons hb1 (.cons (v_vSpans_c h9) (.cons hb2 .nil))) (by kernel_rfl) ?_
            exact thN (Wk_J hL ⟨[(5, []), (6, []), (9, []), (10, []), (11, []), (14, []), (91, [])], [], [], 32⟩ (by kernel_rfl))
          · have hm := ie hb2 hm
            rcases btf (!(r6.2 == r5.2)) with hb3 | hb3
            · have hm := it hb3 hm
              obtain rfl := some_inj hm
              refine X_reg ty_ok Γok hL [(3, .b false), (6, .c (v_vSpans_r r9) (v_vSpans_n r9) (v_vSpans_o (r5.1, r8.1) r9)), (9, .b false), (14, .b true)] (.cons hb1 (.cons (v_vSpans_c h9) (.cons hb2 (.cons hb3 .nil)))) (by kernel_rfl) ?_
              exact thN (Wk_J hL ⟨[(5, []), (6, []), (9, []), (10, []), (11, []), (14, []), (91, [])], [], [], 32⟩ (by kernel_rfl))
            · have hm := ie hb3 hm
              obtain rfl := some_inj hm
              refine X_reg ty_ok Γok hL [(3, .b false), (6, .c (v_vSpans_r r9) (v_vSpans_n r9) (v_vSpans_o (r5.1, r8.1) r9)), (9, .b false), (14, .b false)] (.cons hb1 (.cons (v_vSpans_c h9) (.cons hb2 (.cons hb3 .nil)))) (by kernel_rfl) ?_
              exact thN (Wk_J hL ⟨[(5, []), (6, []), (9, []), (10, []), (11, []), (14, []), (91, [])], [], [], 32⟩ (by kernel_rfl))
      have hm := hk1
      refine X_cond v1 (by kernel_rfl) (fun hc2 => ?_) (fun hc2 => ?_)
      · have hm := it hc2 hm
        refine X_reg_seq ty_ok Γok hL [] .nil (by kernel_rfl) ?_
        obtain rfl := some_inj hm
        refine Ok_ret ?_
        repeat (first | refine thR ?_ | refine ibR ?_)
        exact X_fin [] [] (by kernel_rfl) trivial
      · have hm := ie hc2 hm
        refine X_skip ?_
        refine thN ?_
        refine Ok_seq ?_
        refine X_reg_seq ty_ok Γok hL [] .nil (by kernel_rfl) ?_
        refine X_cond (!r5.2) (by kernel_rfl) (fun hc3 => ?_) (fun hc3 => ?_)
        · have hm := it hc3 hm
          refine X_reg_seq ty_ok Γok hL [] .nil (by kernel_rfl) ?_
          obtain rfl := some_inj hm
          refine Ok_ret ?_
          repeat (first | refine thR ?_ | refine ibR ?_)
          exact X_fin [] [] (by kernel_rfl) trivial
        · have hm := ie hc3 hm
          refine X_skip ?_
          refine thN ?_
          refine X_reg_seq ty_ok Γok hL [] .nil (by kernel_rfl) ?_
          refine Ok_seq ?_
          refine X_reg_seq ty_ok Γok hL [] .nil (by kernel_rfl) ?_
          obtain ⟨v7, hv6, hr, hk6⟩ := flb_t hm
          refine X_tailF (n := 181) (fun (i1 : Int) => (⟨[(11, .dat (.sc (.int .i64 r6.1))), (14, .dat (.sc (.int .i64 r7.2.1))), (18, .dat (.sc (.int .i64 i1)))], [], 32⟩ : X)) v7 ?_ ?_
          · have hm := hv6
            refine Ok_block ?_
            refine X_loop (n := 181) (step := v_FnSpans_L2 r2 r5) (fun ((i, k) : Int × Int) => (⟨[(5, .dat (Enc.e r2.1)), (6, .dat (.sc (.bool r2.2))), (9, .dat (Enc.e r5.1)), (11, .dat (.sc (.int .i64 r6.1))), (14, .dat (.sc (.int .i64 r7.2.1))), (18, .dat (.sc (.int .i64 i))), (19, .dat (.sc (.int .i64 k)))], [], 32⟩ : X)) hm (Wk_J hL ⟨[(5, []), (6, []), (9, []), (11, []), (14, []), (18, []), (19, [])], [], [], 32⟩ (by kernel_rfl)) ?_
            rintro ⟨i, k⟩ r0 hm hb4
            rw [v_FnSpans_L2] at hm
            refine Ok_seq ?_
            refine X_reg_seq ty_ok Γok hL [(2, .n (r5.1.length : Int))] (.cons (len_m Enc.e r5.1) .nil) (by kernel_rfl) ?_
            refine X_cond (decide (k < (r5.1.length : Int))) (by kernel_rfl) (fun hc4 => ?_) (fun hc4 => ?_)
            · have hm := it hc4 hm
              refine X_skip ?_
              refine thN ?_
              refine Ok_seq ?_
              refine Ok_block ?_
              refine Ok_seq ?_
              obtain ⟨e4, h14, hm⟩ := obind hm
              obtain ⟨e5, h15, hm⟩ := obind hm
              obtain ⟨v2, hv2, hk2⟩ := obind hm
              refine X_join (n := 181) (fun (v2 : Bool) => (⟨[(5, .dat (Enc.e r2.1)), (6, .dat (.sc (.bool r2.2))), (9, .dat (Enc.e r5.1)), (11, .dat (.sc (.int .i64 r6.1))), (14, .dat (.sc (.int .i64 r7.2.1))), (18, .dat (.sc (.int .i64 i))), (19, .dat (.sc (.int .i64 k))), (130, .dat (.sc (.bool v2)))], [], 32⟩ : X)) v2 ?_ ?_
              · have hm := hv2
                rcases btf (decide (e5.To ≤ e4.From)) with hb5 | hb5
                · have hm := it hb5 hm
                  obtain rfl := some_inj hm
                  refine X_draw mixed ty_ok Γok Γlive [] (by kernel_rfl) [(2, .d (Enc.e e4)), (7, .d (Enc.e e5)), (11, .b true)] (.cons (idx_m (f := Enc.e) h14) (.cons (idx_m (f := Enc.e) h15) (.cons hb5 .nil))) (by kernel_rfl) ?_
                  exact thN (Wk_J hL ⟨[(5, []), (6, []), (9, []), (11, []), (14, []), (18, []), (19, []), (130, [])], [], [], 32⟩ (by kernel_rfl))
                · have hm := ie hb5 hm
                  rcases btf (decide (0 < k)) with hb6 | hb6
                  · have hm := it hb6 hm
                    obtain ⟨e6, h16, hm⟩ := obind hm
                    obtain ⟨e7, h17, hm⟩ := obind hm
                    obtain rfl := some_inj hm
                    refine X_draw mixed ty_ok Γok Γlive [] (by kernel_rfl) [(2, .d (Enc.e e4)), (7, .d (Enc.e e5)), (11, .b false), (14, .b true), (18, .d (Enc.e e6)), (23, .d (Enc.e e7))] (.cons (idx_m (f := Enc.e) h14) (.cons (idx_m (f := Enc.e) h15) (.cons hb5 (.cons hb6 (.cons (idx_m (f := Enc.e) h16) (.cons (idx_m (f := Enc.e) h17) .nil)))))) (by kernel_rfl) ?_
                    exact thN (Wk_J hL ⟨[(5, []), (6, []), (9, []), (11, []), (14, []), (18, []), (19, []), (130, [])], [], [], 32⟩ (by kernel_rfl))
                  · have hm := ie hb6 hm
                    obtain rfl := some_inj hm
                    refine X_draw mixed ty_ok Γok Γlive [] (by kernel_rfl) [(2, .d (Enc.e e4)), (7, .d (Enc.e e5)), (11, .b false), (14, .b false)] (.cons (idx_m (f := Enc.e) h14) (.cons (idx_m (f := Enc.e) h15) (.cons hb5 (.cons hb6 .nil)))) (by kernel_rfl) ?_
                    exact thN (Wk_J hL ⟨[(5, []), (6, []), (9, []), (11, []), (14, []), (18, []), (19, []), (130, [])], [], [], 32⟩ (by kernel_rfl))
              have hm := hk2
              refine X_cond v2 (by kernel_rfl) (fun hc5 => ?_) (fun hc5 => ?_)
              · have hm := it hc5 hm
                refine X_reg_seq ty_ok Γok hL [] .nil (by kernel_rfl) ?_
                obtain rfl := some_inj hm
                obtain rfl := hb4 _ rfl
                have hm := congrArg some (hr _ rfl)
                obtain rfl := some_inj hm
                refine Ok_ret ?_
                repeat (first | refine thR ?_ | refine ibR ?_)
                exact X_fin [] [] (by kernel_rfl) trivial
              · have hm := ie hc5 hm
                refine X_skip ?_
                refine thN ?_
                obtain ⟨e11, h20, hm⟩ := obind hm
                obtain ⟨e12, h21, hm⟩ := obind hm
                refine X_draw_seq mixed ty_ok Γok Γlive [] (by kernel_rfl) [(3, .d (Enc.e e11)), (9, .d (Enc.e e12))] (.cons (idx_m (f := Enc.e) h20) (.cons (idx_m (f := Enc.e) h21) .nil)) (by kernel_rfl) ?_
                refine X_reg_seq ty_ok Γok hL [] .nil (by kernel_rfl) ?_
                obtain ⟨v6, hv5, hr1, hk5⟩ := flb_t hm
                refine X_tailF (n := 181) (fun (_ : Unit) => (⟨[(5, .dat (Enc.e r2.1)), (6, .dat (.sc (.bool r2.2))), (9, .dat (Enc.e r5.1)), (11, .dat (.sc (.int .i64 r6.1))), (14, .dat (.sc (.int .i64 r7.2.1))), (18, .dat (.sc (.int .i64 (w64 ((w64 (i + e11.To)) - e12.From))))), (19, .dat (.sc (.int .i64 k)))], [], 32⟩ : X)) v6 ?_ ?_
                · have hm := hv5
                  refine Ok_block ?_
                  refine X_loop (n := 181) (step := v_FnSpans_L1 r2 r5 k) (fun (v3 : Int) => (⟨[(5, .dat (Enc.e r2.1)), (6, .dat (.sc (.bool r2.2))), (9, .dat (Enc.e r5.1)), (11, .dat (.sc (.int .i64 r6.1))), (14, .dat (.sc (.int .i64 r7.2.1))), (18, .dat (.sc (.int .i64 (w64 ((w64 (i + e11.To)) - e12.From))))), (19, .dat (.sc (.int .i64 k))), (20, .dat (.sc (.int .i64 v3)))], [], 32⟩ : X)) hm (Wk_J hL ⟨[(5, []), (6, []), (9, []), (11, []), (14, []), (18, []), (19, []), (20, [])], [], [], 32⟩ (by kernel_rfl)) ?_
                  rintro v3 r0 hm hb7
                  rw [v_FnSpans_L1] at hm
                  refine Ok_seq ?_
                  obtain ⟨v4, hv3, hk3⟩ := obind hm
                  refine X_join (n := 181) (fun (v4 : Bool) => (⟨[(5, .dat (Enc.e r2.1)), (6, .dat (.sc (.bool r2.2))), (9, .dat (Enc.e r5.1)), (11, .dat (.sc (.int .i64 r6.1))), (14, .dat (.sc (.int .i64 r7.2.1))), (18, .dat (.sc (.int .i64 (w64 ((w64 (i + e11.To)) - e12.From))))), (19, .dat (.sc (.int .i64 k))), (20, .dat (.sc (.int .i64 v3))), (150, .dat (.sc (.bool v4)))], [], 32⟩ : X)) v4 ?_ ?_
                  · have hm := hv3
                    rcases btf (decide (v3 < (r2.1.length : Int))) with hb8 | hb8
                    · have hm := it hb8 hm
                      obtain rfl := some_inj hm
                      refine X_reg ty_ok Γok hL [(2, .n (r2.1.length : Int)), (4, .b true)] (.cons (len_m Enc.e r2.1) (.cons hb8 .nil)) (by kernel_rfl) ?_
                      exact thN (Wk_J hL ⟨[(5, []), (6, []), (9, []), (11, []), (14, []), (18, []), (19, []), (20, []), (150, [])], [], [], 32⟩ (by kernel_rfl))
                    · have hm := ie hb8 hm
                      obtain rfl := some_inj hm
                      refine X_reg ty_ok Γok hL [(2, .n (r2.1.length : Int)), (4, .b false)] (.cons (len_m Enc.e r2.1) (.cons hb8 .nil)) (by kernel_rfl) ?_
                      exact thN (Wk_J hL ⟨[(5, []), (6, []), (9, []), (11, []), (14, []), (18, []), (19, []), (20, []), (150, [])], [], [], 32⟩ (by kernel_rfl))
                  have hm := hk3
                  refine X_cond v4 (by kernel_rfl) (fun hc6 => ?_) (fun hc6 => ?_)
                  · have hm := it hc6 hm
                    refine X_skip ?_
                    refine thN ?_
                    refine Ok_seq ?_
                    refine Ok_block ?_
                    obtain ⟨e15, h25, hm⟩ := obind hm
                    obtain ⟨e16, h26, hm⟩ := obind hm
                    obtain ⟨r12, h27, hm⟩ := obind hm
                    refine X_draw_seq mixed ty_ok Γok Γlive [(14, [240])] (by kernel_rfl) [(2, .d (Enc.e e15)), (6, .d (Enc.e e16)), (8, .c (i_OverlapOf_r r12) (i_OverlapOf_n r12) (i_OverlapOf_o (e15, e16) r12))] (.cons (idx_m (f := Enc.e) h25) (.cons (idx_m (f := Enc.e) h26) (.cons (i_OverlapOf_c h27) .nil))) (by kernel_rfl) ?_
                    obtain ⟨v5, hv4, hk4⟩ := obind hm
                    refine X_join (n := 181) (fun (v5 : Bool) => (⟨[(5, .dat (Enc.e r2.1)), (6, .dat (.sc (.bool r2.2))), (9, .dat (Enc.e r5.1)), (11, .dat (.sc (.int .i64 r6.1))), (14, .dat (.sc (.int .i64 r7.2.1))), (18, .dat (.sc (.int .i64 (w64 ((w64 (i + e11.To)) - e12.From))))), (19, .dat (.sc (.int .i64 k))), (20, .dat (.sc (.int .i64 v3))), (170, .dat (.sc (.bool v5)))], [], 32⟩ : X)) v5 ?_ ?_
                    · have hm := hv4
                      rcases btf (!r12.2.2) with hb9 | hb9
                      · have hm := it hb9 hm
                        obtain rfl := some_inj hm
                        refine X_reg ty_ok Γok hL [(2, .b true)] (.cons hb9 .nil) (by kernel_rfl) ?_
                        exact thN (Wk_J hL ⟨[(5, []), (6, []), (9, []), (11, []), (14, []), (18, []), (19, []), (20, []), (170, [])], [], [], 32⟩ (by kernel_rfl))
                      · have hm := ie hb9 hm
                        obtain rfl := some_inj hm
                        refine X_reg ty_ok Γok hL [(2, .b false)] (.cons hb9 .nil) (by kernel_rfl) ?_
                        exact thN (Wk_J hL ⟨[(5, []), (6, []), (9, []), (11, []), (14, []), (18, []), (19, []), (20, []), (170, [])], [], [], 32⟩ (by kernel_rfl))
                    have hm := hk4
                    refine X_cond v5 (by kernel_rfl) (fun hc7 => ?_) (fun hc7 => ?_)
                    · have hm := it hc7 hm
                      refine X_reg_seq ty_ok Γok hL [] .nil (by kernel_rfl) ?_
                      obtain rfl := some_inj hm
                      obtain rfl := hb7 _ rfl
                      have hm := congrArg some (hr1 _ rfl)
                      obtain rfl := some_inj hm
                      obtain rfl := hb4 _ rfl
                      have hm := congrArg some (hr _ rfl)
                      obtain rfl := some_inj hm
                      refine Ok_ret ?_
                      repeat (first | refine thR ?_ | refine ibR ?_)
                      exact X_fin [] [] (by kernel_rfl) trivial
                    · have hm := ie hc7 hm
                      refine X_skip ?_
                      refine ibN ?_
                      refine thN ?_
                      refine X_reg ty_ok Γok hL [] .nil (by kernel_rfl) ?_
                      obtain rfl := some_inj hm
                      exact thN ⟨_, rfl, Wk_J hL ⟨[(5, []), (6, []), (9, []), (11, []), (14, []), (18, []), (19, []), (20, [])], [], [], 32⟩ (by kernel_rfl)⟩
                  · have hm := ie hc6 hm
                    obtain rfl := some_inj hm
                    obtain rfl := hb7 _ rfl
                    refine Ok_exit ?_
                    refine thE ?_
                    refine thE ?_
                    refine ibE ?_
                    exact thN ⟨_, rfl, Wk_J hL ⟨[(5, []), (6, []), (9, []), (11, []), (14, []), (18, []), (19, [])], [], [], 32⟩ (by kernel_rfl)⟩
                rintro ⟨⟩ hu s hw
                have hm := hk5 _ hu
                refine ibN ?_
                refine thN ?_
                refine Ok_weak hw ?_
                refine X_reg ty_ok Γok hL [] .nil (by kernel_rfl) ?_
                obtain rfl := some_inj hm
                exact thN ⟨_, rfl, Wk_J hL ⟨[(5, []), (6, []), (9, []), (11, []), (14, []), (18, []), (19, [])], [], [], 32⟩ (by kernel_rfl)⟩
            · have hm := ie hc4 hm
              obtain rfl := some_inj hm
              obtain rfl := hb4 _ rfl
              refine Ok_exit ?_
              refine thE ?_
              refine thE ?_
              refine ibE ?_
              exact thN ⟨_, rfl, Wk_J hL ⟨[(11, []), (14, []), (18, [])], [], [], 32⟩ (by kernel_rfl)⟩
          rintro i1 hu1 s1 hw1
          have hm := hk6 _ hu1
          refine thN ?_
          refine Ok_weak hw1 ?_
          obtain ⟨l, hv7, hk7⟩ := obind hm
          refine X_join (n := 181) (fun (l : Bool) => (⟨[(2, .dat (.sc (.bool l)))], [], 32⟩ : X)) l ?_ ?_
          · have hm := hv7
            rcases btf (i1 == r6.1) with hb10 | hb10
            · have hm := it hb10 hm
              obtain rfl := some_inj hm
              refine X_reg ty_ok Γok hL [(3, .b true)] (.cons hb10 .nil) (by kernel_rfl) ?_
              exact thN (Wk_J hL ⟨[(2, [])], [], [], 32⟩ (by kernel_rfl))
            · have hm := ie hb10 hm
              obtain rfl := some_inj hm
              refine X_reg ty_ok Γok hL [(3, .b false)] (.cons hb10 .nil) (by kernel_rfl) ?_
              exact thN (Wk_J hL ⟨[(2, [])], [], [], 32⟩ (by kernel_rfl))
          have hm := hk7
          obtain rfl := some_inj hm
          refine Ok_ret ?_
          repeat (first | refine thR ?_ | refine ibR ?_)
          exact X_fin [] [] (by kernel_rfl) trivial
end Go.Proofs.Ytepdapiceklppaa
