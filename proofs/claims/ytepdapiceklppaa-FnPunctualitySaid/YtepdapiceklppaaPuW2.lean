/- Each function computes what its model says. Made by program (dec.py). -/
import Derived.Test.YtepdapiceklppaaPuW1
namespace Go.Proofs.Ytepdapiceklppaa
open Go Go.Ab
set_option maxRecDepth 100000
set_option maxHeartbeats 4000000
set_option linter.unusedVariables false
set_option linter.unusedSimpArgs false
abbrev slices_xorshift_Next_r (y : (IK .u64) × (IK .u64)) : AV := .dat (Enc.e y.1)
abbrev slices_xorshift_Next_n (y : (IK .u64) × (IK .u64)) : List Obj' := []
abbrev slices_xorshift_Next_o (x : (IK .u64)) (y : (IK .u64) × (IK .u64)) : List Obj' := [.box [.dat (.sc (.int .u64 y.2.v))]]
noncomputable def slices_xorshift_Next_S : FnSpec := modS [.bx] (fun x : (IK .u64) => [.sc undef]) (fun x : (IK .u64) => [.box [.dat (.sc (.int .u64 x.v))]]) (fun x : (IK .u64) => slices_xorshift_Next x) slices_xorshift_Next_r slices_xorshift_Next_n slices_xorshift_Next_o
theorem slices_xorshift_Next_c {r : IK .u64} {y : (IK .u64) × (IK .u64)} (h : slices_xorshift_Next r = some y) : CallOK slices_xorshift_Next_S [.sc undef] [.box [.dat (.sc (.int .u64 r.v))]] (slices_xorshift_Next_r y) (slices_xorshift_Next_n y) (slices_xorshift_Next_o r y) :=
  modS_call (by
    rintro a0 b0 h hO
    have q0 : a0 = b0 := Enc.inj _ _ (congrArg (fun l => (obD l 0).getD 0 (.sc undef)) hO)
    subst q0; rfl) (x := r) h
theorem slices_xorshift_Next_ok : FnOK Try.prog 278 slices_xorshift_Next_S := by
  have Γok : ∀ f S, lookF f [] = some S → FnOK Try.prog f S := lookF_ok allF_nil
  have Γlive : Live (fun f => lookF f []) := lookF_live allL_nil
  refine fnOK_mod ty_ok (fun args w => Try.call278 args w) Try.func278 rfl [.tmp 2] (by rw [Try.results278]) 33 Try.ntmps278 16 rfl (fun _ => by first | exact Nat.zero_le _ | (simp)) ?_
  rintro r y cx hm hL
  have hm : slices_xorshift_Next r = some y := hm
  have hL : cx.L = 1 := hL
  unfold slices_xorshift_Next at hm
  refine X_reg_seq ty_ok Γok hL [] .nil (by kernel_rfl) ?_
  obtain ⟨u1, h1, hm⟩ := obind hm
  refine X_draw_seq mixed ty_ok Γok Γlive [(9, [0])] (by kernel_rfl) [] (.cons (chk_t h1) .nil) (by kernel_rfl) ?_
  obtain ⟨u3, h3, hm⟩ := obind hm
  refine X_draw_seq mixed ty_ok Γok Γlive [(9, [0])] (by kernel_rfl) [] (.cons (chk_t h3) .nil) (by kernel_rfl) ?_
  obtain ⟨u5, h5, hm⟩ := obind hm
  refine X_draw_seq mixed ty_ok Γok Γlive [(9, [0])] (by kernel_rfl) [] (.cons (chk_t h5) .nil) (by kernel_rfl) ?_
  refine X_reg_seq ty_ok Γok hL [] .nil (by kernel_rfl) ?_
  obtain rfl := some_inj hm
  refine Ok_ret ?_
  repeat (first | refine thR ?_ | refine ibR ?_)
  exact X_fin [] [] (by kernel_rfl) trivial
abbrev slices_breakPatternsOrdered_int_w_r (y : (List Int)) : AV := .tup []
abbrev slices_breakPatternsOrdered_int_w_n (y : (List Int)) : List Obj' := []
abbrev slices_breakPatternsOrdered_int_w_o (x : (List Int) × Int × Int) (y : (List Int)) : List Obj' := [.arr 3 1 (List.map Enc.e y)]
noncomputable def slices_breakPatternsOrdered_int_w_S : FnSpec := modS [.sl, .rd, .rd] (fun x : (List Int) × Int × Int => [.sc undef, Enc.e x.2.1, Enc.e x.2.2]) (fun x : (List Int) × Int × Int => [.arr 3 1 (List.map Enc.e x.1)]) (fun x : (List Int) × Int × Int => slices_breakPatternsOrdered_int_w x.1 x.2.1 x.2.2) slices_breakPatternsOrdered_int_w_r slices_breakPatternsOrdered_int_w_n slices_breakPatternsOrdered_int_w_o
theorem slices_breakPatternsOrdered_int_w_c {data : List Int} {a : Int} {b : Int} {y : (List Int)} (h : slices_breakPatternsOrdered_int_w data a b = some y) : CallOK slices_breakPatternsOrdered_int_w_S [.sc undef, Enc.e a, Enc.e b] [.arr 3 1 (List.map Enc.e data)] (slices_breakPatternsOrdered_int_w_r y) (slices_breakPatternsOrdered_int_w_n y) (slices_breakPatternsOrdered_int_w_o (data, a, b) y) :=
  modS_call (by
    rintro ⟨a0, a1, a2⟩ ⟨b0, b1, b2⟩ h hO
    have q0 : a0 = b0 := Enc.inj _ _ (congrArg (fun l => D.sl 1 (obL l 0)) hO)
    have q1 : a1 = b1 := Enc.inj _ _ (congrArg (fun l => List.getD l 1 (.sc undef)) h)
    have q2 : a2 = b2 := Enc.inj _ _ (congrArg (fun l => List.getD l 2 (.sc undef)) h)
    subst q0; subst q1; subst q2; rfl) (x := (data, a, b)) h
theorem slices_breakPatternsOrdered_int_w_ok : FnOK Try.prog 251 slices_breakPatternsOrdered_int_w_S := by
  have Γok : ∀ f S, lookF f [(277, slices_nextPowerOfTwo_S), (278, slices_xorshift_Next_S)] = some S → FnOK Try.prog f S := lookF_ok (allF_cons slices_nextPowerOfTwo_ok (allF_cons slices_xorshift_Next_ok allF_nil))
  have Γlive : Live (fun f => lookF f [(277, slices_nextPowerOfTwo_S), (278, slices_xorshift_Next_S)]) := lookF_live (allL_cons modS_live (allL_cons modS_live allL_nil))
  refine fnOK_mod ty_ok (fun args w => Try.call251 args w) Try.func251 rfl [] (by rw [Try.results251]) 65 Try.ntmps251 16 rfl (fun _ => by first | exact Nat.zero_le _ | (simp)) ?_
  rintro ⟨data, a, b⟩ y cx hm hL
  have hm : slices_breakPatternsOrdered_int_w data a b = some y := hm
  have hL : cx.L = 1 := hL
  unfold slices_breakPatternsOrdered_int_w at hm
  refine X_reg_seq ty_ok Γok hL [] .nil (by kernel_rfl) ?_
  refine X_reg_seq ty_ok Γok hL [] .nil (by kernel_rfl) ?_
  refine X_cond (decide (8 ≤ (w64 (b - a)))) (by kernel_rfl) (fun hc => ?_) (fun hc => ?_)
  · have hm := it hc hm
    refine X_reg_seq ty_ok Γok hL [] .nil (by kernel_rfl) ?_
    obtain ⟨r, h, hm⟩ := obind hm
    refine X_reg_seq ty_ok Γok hL [(1, .c (slices_nextPowerOfTwo_r r) (slices_nextPowerOfTwo_n r) (slices_nextPowerOfTwo_o (w64 (b - a)) r))] (.cons (slices_nextPowerOfTwo_c h) .nil) (by kernel_rfl) ?_
    obtain ⟨u, h1, hm⟩ := obind hm
    refine X_reg_seq ty_ok Γok hL [] (.cons (chk_t h1) .nil) (by kernel_rfl) ?_
    refine Ok_block ?_
    refine X_loop (n := 65) (step := slices_breakPatternsOrdered_int_w_L1 a b r) (fun ((v, data1, v1) : Int × (List Int) × Int) => (⟨[(0, .own 0), (1, .dat (.sc (.int .i64 a))), (6, .dat (.sc (.int .i64 (w64 (b - a))))), (7, .ref 32 0), (8, .dat (.sc (.int .u64 r.v))), (9, .dat (.sc (.int .i64 v)))], [(0, some (.arr 3 1 (List.map Enc.e data1))), (32, some (.box [.dat (.sc (.int .u64 v1))]))], 64⟩ : X)) hm (Wk_J hL ⟨[(0, []), (1, []), (6, []), (7, []), (8, []), (9, [])], [(0, 0, []), (32, 144, [])], [], 64⟩ (by kernel_rfl)) ?_
    rintro ⟨v, data1, v1⟩ r0 hm hb
    rw [slices_breakPatternsOrdered_int_w_L1] at hm
    refine Ok_seq ?_
    obtain ⟨u1, h2, hm⟩ := obind hm
    refine X_reg_seq ty_ok Γok hL [] (.cons (chk_t h2) .nil) (by kernel_rfl) ?_
    refine X_cond (decide (v ≤ (w64 ((w64 (a + (w64 ((w64 ((w64 (b - a)).tdiv 4)) * 2)))) + 1)))) (by kernel_rfl) (fun hc1 => ?_) (fun hc1 => ?_)
    · have hm := it hc1 hm
      refine X_skip ?_
      refine thN ?_
      refine Ok_seq ?_
      refine Ok_block ?_
      obtain ⟨r1, h3, hm⟩ := obind hm
      refine X_reg_seq ty_ok Γok hL [(0, .c (slices_xorshift_Next_r r1) (slices_xorshift_Next_n r1) (slices_xorshift_Next_o (⟨v1⟩ : IK .u64) r1))] (.cons (slices_xorshift_Next_c h3) .nil) (by kernel_rfl) ?_
      obtain ⟨v2, hv, hk⟩ := obind hm
      refine X_join (n := 65) (fun (v2 : Int) => (⟨[(0, .own 0), (1, .dat (.sc (.int .i64 a))), (6, .dat (.sc (.int .i64 (w64 (b - a))))), (7, .ref 32 0), (8, .dat (.sc (.int .u64 r.v))), (9, .dat (.sc (.int .i64 v))), (10, .dat (.sc (.int .i64 v2)))], [(0, some (.arr 3 1 (List.map Enc.e data1))), (32, some (.box [.dat (.sc (.int .u64 r1.2.v))]))], 64⟩ : X)) v2 ?_ ?_
      · have hm := hv
        refine X_reg_seq ty_ok Γok hL [] .nil (by kernel_rfl) ?_
        refine X_cond (decide ((w64 (b - a)) ≤ (w64 ((IntKind.u64.wrap ((BitVec.ofInt (IntKind.u64).bits r1.1.v &&& BitVec.ofInt (IntKind.u64).bits (IntKind.u64.wrap (r.v - 1))).toNat : Int)))))) (by kernel_rfl) (fun hc2 => ?_) (fun hc2 => ?_)
        · have hm := it hc2 hm
          refine X_reg ty_ok Γok hL [] .nil (by kernel_rfl) ?_
          obtain rfl := some_inj hm
          exact thN (Wk_J hL ⟨[(0, []), (1, []), (6, []), (7, []), (8, []), (9, []), (10, [])], [(0, 0, []), (32, 32, [])], [], 64⟩ (by kernel_rfl))
        · have hm := ie hc2 hm
          refine X_skip ?_
          obtain rfl := some_inj hm
          exact thN (Wk_J hL ⟨[(0, []), (1, []), (6, []), (7, []), (8, []), (9, []), (10, [])], [(0, 0, []), (32, 32, [])], [], 64⟩ (by kernel_rfl))
      have hm := hk
      obtain ⟨e4, h8, hm⟩ := obind hm
      obtain ⟨e5, h9, hm⟩ := obind hm
      obtain ⟨e6, h10, hm⟩ := obind hm
      obtain ⟨e7, h11, hm⟩ := obind hm
      refine X_draw mixed ty_ok Γok Γlive [(17, [0]), (19, [0])] (by kernel_rfl) [(10, .d (Enc.e e4)), (11, .d (Enc.e e4)), (14, .d (Enc.e e5)), (15, .d (Enc.e e5)), (16, .d (Enc.e e6)), (17, .sd (Enc.e e6) (List.map Enc.e (data1.set v.toNat e4))), (18, .d (Enc.e e7)), (19, .sd (Enc.e e7) (List.map Enc.e ((data1.set v.toNat e4).set (w64 (a + v2)).toNat e5)))] (.cons (idx_m (f := Enc.e) h8) (.cons (idx_m2 (f := Enc.e) h8) (.cons (idx_m (f := Enc.e) h9) (.cons (idx_m2 (f := Enc.e) h9) (.cons (idx_m (f := Enc.e) h10) (.cons (idx_m2 (f := Enc.e) h10) (.cons (set_m Enc.e data1 v.toNat e4) (.cons (idx_m (f := Enc.e) h11) (.cons (idx_m2 (f := Enc.e) h11) (.cons (set_m Enc.e (data1.set v.toNat e4) (w64 (a + v2)).toNat e5) .nil)))))))))) (by kernel_rfl) ?_
      refine ibN ?_
      refine thN ?_
      refine X_reg ty_ok Γok hL [] .nil (by kernel_rfl) ?_
      obtain rfl := some_inj hm
      exact thN ⟨_, rfl, Wk_J hL ⟨[(0, []), (1, []), (6, []), (7, []), (8, []), (9, [])], [(0, 0, []), (32, 32, [])], [], 64⟩ (by kernel_rfl)⟩
    · have hm := ie hc1 hm
      obtain rfl := some_inj hm
      have hm := congrArg some (hb _ rfl)
      refine Ok_exit ?_
      refine thE ?_
      refine thE ?_
      refine ibE ?_
      obtain rfl := some_inj hm
      exact X_fin [] [] (by kernel_rfl) trivial
  · have hm := ie hc hm
    refine X_skip ?_
    obtain rfl := some_inj hm
    exact X_fin [] [] (by kernel_rfl) trivial
abbrev slices_pdqsortOrdered_int_w_r (y : (List Int)) : AV := .tup []
abbrev slices_pdqsortOrdered_int_w_n (y : (List Int)) : List Obj' := []
abbrev slices_pdqsortOrdered_int_w_o (x : (List Int) × Int × Int × Int) (y : (List Int)) : List Obj' := [.arr 3 1 (List.map Enc.e y)]
noncomputable def slices_pdqsortOrdered_int_w_SR (rec_ : (List Int) → Int → Int → Int → Option ((List Int))) : FnSpec := modS [.sl, .rd, .rd, .rd] (fun x : (List Int) × Int × Int × Int => [.sc undef, Enc.e x.2.1, Enc.e x.2.2.1, Enc.e x.2.2.2]) (fun x : (List Int) × Int × Int × Int => [.arr 3 1 (List.map Enc.e x.1)]) (fun x : (List Int) × Int × Int × Int => rec_ x.1 x.2.1 x.2.2.1 x.2.2.2) slices_pdqsortOrdered_int_w_r slices_pdqsortOrdered_int_w_n slices_pdqsortOrdered_int_w_o
noncomputable def slices_pdqsortOrdered_int_w_S : FnSpec := modS [.sl, .rd, .rd, .rd] (fun x : (List Int) × Int × Int × Int => [.sc undef, Enc.e x.2.1, Enc.e x.2.2.1, Enc.e x.2.2.2]) (fun x : (List Int) × Int × Int × Int => [.arr 3 1 (List.map Enc.e x.1)]) (fun x : (List Int) × Int × Int × Int => slices_pdqsortOrdered_int_w x.1 x.2.1 x.2.2.1 x.2.2.2) slices_pdqsortOrdered_int_w_r slices_pdqsortOrdered_int_w_n slices_pdqsortOrdered_int_w_o
theorem slices_pdqsortOrdered_int_w_c {data : List Int} {a : Int} {b : Int} {limit : Int} {y : (List Int)} (h : slices_pdqsortOrdered_int_w data a b limit = some y) : CallOK slices_pdqsortOrdered_int_w_S [.sc undef, Enc.e a, Enc.e b, Enc.e limit] [.arr 3 1 (List.map Enc.e data)] (slices_pdqsortOrdered_int_w_r y) (slices_pdqsortOrdered_int_w_n y) (slices_pdqsortOrdered_int_w_o (data, a, b, limit) y) :=
  modS_call (by
    rintro ⟨a0, a1, a2, a3⟩ ⟨b0, b1, b2, b3⟩ h hO
    have q0 : a0 = b0 := Enc.inj _ _ (congrArg (fun l => D.sl 1 (obL l 0)) hO)
    have q1 : a1 = b1 := Enc.inj _ _ (congrArg (fun l => List.getD l 1 (.sc undef)) h)
    have q2 : a2 = b2 := Enc.inj _ _ (congrArg (fun l => List.getD l 2 (.sc undef)) h)
    have q3 : a3 = b3 := Enc.inj _ _ (congrArg (fun l => List.getD l 3 (.sc undef)) h)
    subst q0; subst q1; subst q2; subst q3; rfl) (x := (data, a, b, limit)) h
theorem slices_pdqsortOrdered_int_w_cR {rec_ : (List Int) → Int → Int → Int → Option ((List Int))} {data : List Int} {a : Int} {b : Int} {limit : Int} {y : (List Int)} (h : rec_ data a b limit = some y) : CallOK (slices_pdqsortOrdered_int_w_SR rec_) [.sc undef, Enc.e a, Enc.e b, Enc.e limit] [.arr 3 1 (List.map Enc.e data)] (slices_pdqsortOrdered_int_w_r y) (slices_pdqsortOrdered_int_w_n y) (slices_pdqsortOrdered_int_w_o (data, a, b, limit) y) :=
  modS_call (by
    rintro ⟨a0, a1, a2, a3⟩ ⟨b0, b1, b2, b3⟩ h hO
    have q0 : a0 = b0 := Enc.inj _ _ (congrArg (fun l => D.sl 1 (obL l 0)) hO)
    have q1 : a1 = b1 := Enc.inj _ _ (congrArg (fun l => List.getD l 1 (.sc undef)) h)
    have q2 : a2 = b2 := Enc.inj _ _ (congrArg (fun l => List.getD l 2 (.sc undef)) h)
    have q3 : a3 = b3 := Enc.inj _ _ (congrArg (fun l => List.getD l 3 (.sc undef)) h)
    subst q0; subst q1; subst q2; subst q3; rfl) (x := (data, a, b, limit)) h
theorem slices_pdqsortOrdered_int_w_okF {rec_ : (List Int) → Int → Int → Int → Option ((List Int))} (hrec : FnOK Try.prog 228 (slices_pdqsortOrdered_int_w_SR rec_)) : FnOK Try.prog 228 (slices_pdqsortOrdered_int_w_SR (slices_pdqsortOrdered_int_w_F rec_)) := by
  have Γok : ∀ f S, lookF f [(228, slices_pdqsortOrdered_int_w_SR rec_), (249, slices_insertionSortOrdered_int_w_S), (250, slices_heapSortOrdered_int_w_S), (252, slices_choosePivotOrdered_int_S), (253, slices_reverseRangeOrdered_int_w_S), (254, slices_partialInsertionSortOrdered_int_w_S), (255, cmp_Less_int_S), (256, slices_partitionEqualOrdered_int_w_S), (257, slices_partitionOrdered_int_w_S), (251, slices_breakPatternsOrdered_int_w_S)] = some S → FnOK Try.prog f S := lookF_ok (allF_cons hrec (allF_cons slices_insertionSortOrdered_int_w_ok (allF_cons slices_heapSortOrdered_int_w_ok (allF_cons slices_choosePivotOrdered_int_ok (allF_cons slices_reverseRangeOrdered_int_w_ok (allF_cons slices_partialInsertionSortOrdered_int_w_ok (allF_cons cmp_Less_int_ok (allF_cons slices_partitionEqualOrdered_int_w_ok (allF_cons slices_partitionOrdered_int_w_ok (allF_cons slices_breakPatternsOrdered_int_w_ok allF_nil))))))))))
  have Γlive : Live (fun f => lookF f [(228, slices_pdqsortOrdered_int_w_SR rec_), (249, slices_insertionSortOrdered_int_w_S), (250, slices_heapSortOrdered_int_w_S), (252, slices_choosePivotOrdered_int_S), (253, slices_reverseRangeOrdered_int_w_S), (254, slices_partialInsertionSortOrdered_int_w_S), (255, cmp_Less_int_S), (256, slices_partitionEqualOrdered_int_w_S), (257, slices_partitionOrdered_int_w_S), (251, slices_breakPatternsOrdered_int_w_S)]) := lookF_live (allL_cons modS_live (allL_cons modS_live (allL_cons modS_live (allL_cons modS_live (allL_cons modS_live (allL_cons modS_live (allL_cons modS_live (allL_cons modS_live (allL_cons modS_live (allL_cons modS_live allL_nil))))))))))
  refine fnOK_mod ty_ok (fun args w => Try.call228 args w) Try.func228 rfl [] (by rw [Try.results228]) 134 Try.ntmps228 16 rfl (fun _ => by first | exact Nat.zero_le _ | (simp)) ?_
  rintro ⟨data, a, b, limit⟩ y cx hm hL
  have hm : slices_pdqsortOrdered_int_w_F rec_ data a b limit = some y := hm
  have hL : cx.L = 1 := hL
  unfold slices_pdqsortOrdered_int_w_F at hm
  refine X_reg_seq ty_ok Γok hL [] .nil (by kernel_rfl) ?_
  refine X_reg_seq ty_ok Γok hL [] .nil (by kernel_rfl) ?_
  refine Ok_block ?_
  refine X_loop (n := 134) (step := slices_pdqsortOrdered_int_w_L1 rec_) (fun ((a1, b1, limit1, hint, mid, data1) : Int × Int × Int × Bool × Bool × (List Int)) => (⟨[(0, .own 0), (1, .dat (.sc (.int .i64 a1))), (2, .dat (.sc (.int .i64 b1))), (3, .dat (.sc (.int .i64 limit1))), (8, .dat (.sc (.bool hint))), (9, .dat (.sc (.bool mid)))], [(0, some (.arr 3 1 (List.map Enc.e data1)))], 48⟩ : X)) hm (Wk_J hL ⟨[(0, []), (1, []), (2, []), (3, []), (8, []), (9, [])], [(0, 0, [])], [], 48⟩ (by kernel_rfl)) ?_
  rintro ⟨a1, b1, limit1, hint, mid, data1⟩ r0 hm hb
  rw [slices_pdqsortOrdered_int_w_L1] at hm
  refine Ok_block ?_
  refine X_reg_seq ty_ok Γok hL [] .nil (by kernel_rfl) ?_
  refine Ok_seq ?_
  refine X_reg_seq ty_ok Γok hL [] .nil (by kernel_rfl) ?_
  refine X_cond (decide ((w64 (b1 - a1)) ≤ 12)) (by kernel_rfl) (fun hc => ?_) (fun hc => ?_)
  · have hm := it hc hm
    obtain ⟨r, h, hm⟩ := obind hm
    refine X_reg_seq ty_ok Γok hL [(3, .c (slices_insertionSortOrdered_int_w_r r) (slices_insertionSortOrdered_int_w_n r) (slices_insertionSortOrdered_int_w_o (data1, a1, b1) r))] (.cons (slices_insertionSortOrdered_int_w_c h) .nil) (by kernel_rfl) ?_
    obtain rfl := some_inj hm
    have hm := congrArg some (hb _ rfl)
    obtain rfl := some_inj hm
    refine Ok_ret ?_
    repeat (first | refine thR ?_ | refine ibR ?_)
    exact X_fin [] [] (by kernel_rfl) trivial
  · have hm := ie hc hm
    refine X_skip ?_
    refine thN ?_
    refine Ok_seq ?_
    refine X_reg_seq ty_ok Γok hL [] .nil (by kernel_rfl) ?_
    refine X_cond (limit1 == 0) (by kernel_rfl) (fun hc1 => ?_) (fun hc1 => ?_)
    · have hm := it hc1 hm
      obtain ⟨r2, h1, hm⟩ := obind hm
      refine X_reg_seq ty_ok Γok hL [(3, .c (slices_heapSortOrdered_int_w_r r2) (slices_heapSortOrdered_int_w_n r2) (slices_heapSortOrdered_int_w_o (data1, a1, b1) r2))] (.cons (slices_heapSortOrdered_int_w_c h1) .nil) (by kernel_rfl) ?_
      obtain rfl := some_inj hm
      have hm := congrArg some (hb _ rfl)
      obtain rfl := some_inj hm
      refine Ok_ret ?_
      repeat (first | refine thR ?_ | refine ibR ?_)
      exact X_fin [] [] (by kernel_rfl) trivial
    · have hm := ie hc1 hm
      refine X_skip ?_
      refine thN ?_
      obtain ⟨vv1, hv, hk⟩ := obind hm
      refine X_join (n := 134) (fun ((limit2, data2) : Int × (List Int)) => (⟨[(0, .own 0), (1, .dat (.sc (.int .i64 a1))), (2, .dat (.sc (.int .i64 b1))), (3, .dat (.sc (.int .i64 limit2))), (8, .dat (.sc (.bool hint))), (9, .dat (.sc (.bool mid))), (10, .dat (.sc (.int .i64 (w64 (b1 - a1)))))], [(0, some (.arr 3 1 (List.map Enc.e data2)))], 48⟩ : X)) vv1 ?_ ?_
      · have hm := hv
        refine X_reg_seq ty_ok Γok hL [] .nil (by kernel_rfl) ?_
        refine X_cond (!hint) (by kernel_rfl) (fun hc2 => ?_) (fun hc2 => ?_)
        · have hm := it hc2 hm
          obtain ⟨r4, h2, hm⟩ := obind hm
          refine X_reg_seq ty_ok Γok hL [(3, .c (slices_breakPatternsOrdered_int_w_r r4) (slices_breakPatternsOrdered_int_w_n r4) (slices_breakPatternsOrdered_int_w_o (data1, a1, b1) r4))] (.cons (slices_breakPatternsOrdered_int_w_c h2) .nil) (by kernel_rfl) ?_
          refine X_reg ty_ok Γok hL [] .nil (by kernel_rfl) ?_
          obtain rfl := some_inj hm
          exact thN (Wk_J hL ⟨[(0, []), (1, []), (2, []), (3, []), (8, []), (9, []), (10, [])], [(0, 0, [])], [], 48⟩ (by kernel_rfl))
        · have hm := ie hc2 hm
          refine X_skip ?_
          obtain rfl := some_inj hm
          exact thN (Wk_J hL ⟨[(0, []), (1, []), (2, []), (3, []), (8, []), (9, []), (10, [])], [(0, 0, [])], [], 48⟩ (by kernel_rfl))
      obtain ⟨limit2, data2⟩ := vv1
      have hm := hk
      obtain ⟨r5, h3, hm⟩ := obind hm
      refine X_reg_seq ty_ok Γok hL [(3, .c (slices_choosePivotOrdered_int_r r5) (slices_choosePivotOrdered_int_n r5) (slices_choosePivotOrdered_int_o (data2, a1, b1) r5))] (.cons (slices_choosePivotOrdered_int_c h3) .nil) (by kernel_rfl) ?_
      obtain ⟨vv, hv1, hk1⟩ := obind hm
      refine X_join (n := 134) (fun ((alreadyPartitioned, leftLen, data3) : Int × Int × (List Int)) => (⟨[(0, .own 0), (1, .dat (.sc (.int .i64 a1))), (2, .dat (.sc (.int .i64 b1))), (3, .dat (.sc (.int .i64 limit2))), (8, .dat (.sc (.bool hint))), (9, .dat (.sc (.bool mid))), (10, .dat (.sc (.int .i64 (w64 (b1 - a1))))), (11, .dat (.sc (.int .i64 alreadyPartitioned))), (12, .dat (.sc (.int .i64 leftLen)))], [(0, some (.arr 3 1 (List.map Enc.e data3)))], 48⟩ : X)) vv ?_ ?_
      · have hm := hv1
        refine X_reg_seq ty_ok Γok hL [] .nil (by kernel_rfl) ?_
        refine X_cond (r5.2 == 2) (by kernel_rfl) (fun hc3 => ?_) (fun hc3 => ?_)
        · have hm := it hc3 hm
          obtain ⟨r6, h4, hm⟩ := obind hm
          refine X_reg_seq ty_ok Γok hL [(3, .c (slices_reverseRangeOrdered_int_w_r r6) (slices_reverseRangeOrdered_int_w_n r6) (slices_reverseRangeOrdered_int_w_o (data2, a1, b1) r6))] (.cons (slices_reverseRangeOrdered_int_w_c h4) .nil) (by kernel_rfl) ?_
          refine X_reg_seq ty_ok Γok hL [] .nil (by kernel_rfl) ?_
          refine X_reg ty_ok Γok hL [] .nil (by kernel_rfl) ?_
          obtain rfl := some_inj hm
          exact thN (Wk_J hL ⟨[(0, []), (1, []), (2, []), (3, []), (8, []), (9, []), (10, []), (11, []), (12, [])], [(0, 0, [])], [], 48⟩ (by kernel_rfl))
        · have hm := ie hc3 hm
          refine X_skip ?_
          obtain rfl := some_inj hm
          exact thN (Wk_J hL ⟨[(0, []), (1, []), (2, []), (3, []), (8, []), (9, []), (10, []), (11, []), (12, [])], [(0, 0, [])], [], 48⟩ (by kernel_rfl))
      obtain ⟨alreadyPartitioned, leftLen, data3⟩ := vv
      have hm := hk1
      obtain ⟨v2, hv2, hr3, hk2⟩ := flb_t hm
      refine X_joinF (n := 134) (fun (data4 : List Int) => (⟨[(0, .own 0), (1, .dat (.sc (.int .i64 a1))), (2, .dat (.sc (.int .i64 b1))), (3, .dat (.sc (.int .i64 limit2))), (8, .dat (.sc (.bool hint))), (9, .dat (.sc (.bool mid))), (10, .dat (.sc (.int .i64 (w64 (b1 - a1))))), (11, .dat (.sc (.int .i64 alreadyPartitioned)))], [(0, some (.arr 3 1 (List.map Enc.e data4)))], 48⟩ : X)) v2 ?_ ?_
      · have hm := hv2
        obtain ⟨v, hv3, hk3⟩ := obind hm
        refine X_join (n := 134) (fun (v : Bool) => (⟨[(0, .own 0), (1, .dat (.sc (.int .i64 a1))), (2, .dat (.sc (.int .i64 b1))), (3, .dat (.sc (.int .i64 limit2))), (8, .dat (.sc (.bool hint))), (9, .dat (.sc (.bool mid))), (10, .dat (.sc (.int .i64 (w64 (b1 - a1))))), (11, .dat (.sc (.int .i64 alreadyPartitioned))), (68, .dat (.sc (.bool v)))], [(0, some (.arr 3 1 (List.map Enc.e data3)))], 48⟩ : X)) v ?_ ?_
        · have hm := hv3
          rcases btf hint with hb1 | hb1
          · have hm := it hb1 hm
            rcases btf mid with hb2 | hb2
            · have hm := it hb2 hm
              obtain rfl := some_inj hm
              refine X_reg ty_ok Γok hL [(1, .b true), (4, .b true)] (.cons hb1 (.cons hb2 .nil)) (by kernel_rfl) ?_
              exact thN (Wk_J hL ⟨[(0, []), (1, []), (2, []), (3, []), (8, []), (9, []), (10, []), (11, []), (68, [])], [(0, 0, [])], [], 48⟩ (by kernel_rfl))
            · have hm := ie hb2 hm
              obtain rfl := some_inj hm
              refine X_reg ty_ok Γok hL [(1, .b true), (4, .b false)] (.cons hb1 (.cons hb2 .nil)) (by kernel_rfl) ?_
              exact thN (Wk_J hL ⟨[(0, []), (1, []), (2, []), (3, []), (8, []), (9, []), (10, []), (11, []), (68, [])], [(0, 0, [])], [], 48⟩ (by kernel_rfl))
          · have hm := ie hb1 hm
            obtain rfl := some_inj hm
            refine X_reg ty_ok Γok hL [(1, .b false)] (.cons hb1 .nil) (by kernel_rfl) ?_
            exact thN (Wk_J hL ⟨[(0, []), (1, []), (2, []), (3, []), (8, []), (9, []), (10, []), (11, []), (68, [])], [(0, 0, [])], [], 48⟩ (by kernel_rfl))
        have hm := hk3
        refine X_cond v (by kernel_rfl) (fun hc4 => ?_) (fun hc4 => ?_)
        · have hm := it hc4 hm
          obtain ⟨r7, h5, hm⟩ := obind hm
          refine X_reg_seq ty_ok Γok hL [(3, .c (slices_partialInsertionSortOrdered_int_w_r r7) (slices_partialInsertionSortOrdered_int_w_n r7) (slices_partialInsertionSortOrdered_int_w_o (data3, a1, b1) r7))] (.cons (slices_partialInsertionSortOrdered_int_w_c h5) .nil) (by kernel_rfl) ?_
          refine X_cond r7.1 (by kernel_rfl) (fun hc5 => ?_) (fun hc5 => ?_)
          · have hm := it hc5 hm
            obtain rfl := some_inj hm
            have hm := congrArg some (hr3 _ rfl)
            obtain rfl := some_inj hm
            have hm := congrArg some (hb _ rfl)
            obtain rfl := some_inj hm
            refine Ok_ret ?_
            repeat (first | refine thR ?_ | refine ibR ?_)
            exact X_fin [] [] (by kernel_rfl) trivial
          · have hm := ie hc5 hm
            refine X_skip ?_
            obtain rfl := some_inj hm
            exact thN ⟨_, rfl, Wk_J hL ⟨[(0, []), (1, []), (2, []), (3, []), (8, []), (9, []), (10, []), (11, [])], [(0, 0, [])], [], 48⟩ (by kernel_rfl)⟩
        · have hm := ie hc4 hm
          refine X_skip ?_
          obtain rfl := some_inj hm
          exact thN ⟨_, rfl, Wk_J hL ⟨[(0, []), (1, []), (2, []), (3, []), (8, []), (9, []), (10, []), (11, [])], [(0, 0, [])], [], 48⟩ (by kernel_rfl)⟩
      rintro data4 hu
      have hm := hk2 _ hu
      refine Ok_seq ?_
      obtain ⟨v1, hv4, hk4⟩ := obind hm
      refine X_join (n := 134) (fun (v1 : Bool) => (⟨[(0, .own 0), (1, .dat (.sc (.int .i64 a1))), (2, .dat (.sc (.int .i64 b1))), (3, .dat (.sc (.int .i64 limit2))), (8, .dat (.sc (.bool hint))), (9, .dat (.sc (.bool mid))), (10, .dat (.sc (.int .i64 (w64 (b1 - a1))))), (11, .dat (.sc (.int .i64 alreadyPartitioned))), (87, .dat (.sc (.bool v1)))], [(0, some (.arr 3 1 (List.map Enc.e data4)))], 48⟩ : X)) v1 ?_ ?_
      · have hm := hv4
        rcases btf (decide (0 < a1)) with hb3 | hb3
        · have hm := it hb3 hm
          obtain ⟨e6, h9, hm⟩ := obind hm
          obtain ⟨e7, h10, hm⟩ := obind hm
          obtain ⟨r11, h11, hm⟩ := obind hm
          obtain rfl := some_inj hm
          refine X_draw mixed ty_ok Γok Γlive [] (by kernel_rfl) [(2, .b true), (6, .d (Enc.e e6)), (7, .d (Enc.e e6)), (10, .d (Enc.e e7)), (11, .d (Enc.e e7)), (12, .c (cmp_Less_int_r r11) (cmp_Less_int_n r11) (cmp_Less_int_o (e6, e7) r11))] (.cons hb3 (.cons (idx_m (f := Enc.e) h9) (.cons (idx_m2 (f := Enc.e) h9) (.cons (idx_m (f := Enc.e) h10) (.cons (idx_m2 (f := Enc.e) h10) (.cons (cmp_Less_int_c h11) .nil)))))) (by kernel_rfl) ?_
          exact thN (Wk_J hL ⟨[(0, []), (1, []), (2, []), (3, []), (8, []), (9, []), (10, []), (11, []), (87, [])], [(0, 0, [])], [], 48⟩ (by kernel_rfl))
        · have hm := ie hb3 hm
          obtain rfl := some_inj hm
          refine X_draw mixed ty_ok Γok Γlive [] (by kernel_rfl) [(2, .b false)] (.cons hb3 .nil) (by kernel_rfl) ?_
          exact thN (Wk_J hL ⟨[(0, []), (1, []), (2, []), (3, []), (8, []), (9, []), (10, []), (11, []), (87, [])], [(0, 0, [])], [], 48⟩ (by kernel_rfl))
      have hm := hk4
      refine X_cond v1 (by kernel_rfl) (fun hc6 => ?_) (fun hc6 => ?_)
      · have hm := it hc6 hm
        obtain ⟨r12, h12, hm⟩ := obind hm
        refine X_reg_seq ty_ok Γok hL [(4, .c (slices_partitionEqualOrdered_int_w_r r12) (slices_partitionEqualOrdered_int_w_n r12) (slices_partitionEqualOrdered_int_w_o (data4, a1, b1, alreadyPartitioned) r12))] (.cons (slices_partitionEqualOrdered_int_w_c h12) .nil) (by kernel_rfl) ?_
        refine X_reg_seq ty_ok Γok hL [] .nil (by kernel_rfl) ?_
        refine Ok_exit ?_
        refine thE ?_
        refine ibE ?_
        obtain rfl := some_inj hm
        exact thN ⟨_, rfl, Wk_J hL ⟨[(0, []), (1, []), (2, []), (3, []), (8, []), (9, [])], [(0, 0, [])], [], 48⟩ (by kernel_rfl)⟩
      · have hm := ie hc6 hm
        refine X_skip ?_
        refine thN ?_
        obtain ⟨r13, h13, hm⟩ := obind hm
        refine X_reg_seq ty_ok Γok hL [(4, .c (slices_partitionOrdered_int_w_r r13) (slices_partitionOrdered_int_w_n r13) (slices_partitionOrdered_int_w_o (data4, a1, b1, alreadyPartitioned) r13))] (.cons (slices_partitionOrdered_int_w_c h13) .nil) (by kernel_rfl) ?_
        refine X_reg_seq ty_ok Γok hL [] .nil (by kernel_rfl) ?_
        refine X_reg_seq ty_ok Γok hL [] .nil (by kernel_rfl) ?_
        obtain ⟨u, h14, hm⟩ := obind hm
        refine X_reg_seq ty_ok Γok hL [] (.cons (chk_t h14) .nil) (by kernel_rfl) ?_
        refine X_reg_seq ty_ok Γok hL [] .nil (by kernel_rfl) ?_
        refine X_cond (decide ((w64 (r13.1 - a1)) < (w64 (b1 - r13.1)))) (by kernel_rfl) (fun hc7 => ?_) (fun hc7 => ?_)
        · have hm := it hc7 hm
          refine X_reg_seq ty_ok Γok hL [] .nil (by kernel_rfl) ?_
          obtain ⟨r14, h15, hm⟩ := obind hm
          refine X_reg_seq ty_ok Γok hL [(4, .c (slices_pdqsortOrdered_int_w_r r14) (slices_pdqsortOrdered_int_w_n r14) (slices_pdqsortOrdered_int_w_o (r13.2.2, a1, r13.1, limit2) r14))] (.cons (slices_pdqsortOrdered_int_w_cR h15) .nil) (by kernel_rfl) ?_
          refine X_reg ty_ok Γok hL [] .nil (by kernel_rfl) ?_
          refine ibN ?_
          obtain rfl := some_inj hm
          exact thN ⟨_, rfl, Wk_J hL ⟨[(0, []), (1, []), (2, []), (3, []), (8, []), (9, [])], [(0, 0, [])], [], 48⟩ (by kernel_rfl)⟩
        · have hm := ie hc7 hm
          refine X_reg_seq ty_ok Γok hL [] .nil (by kernel_rfl) ?_
          obtain ⟨r15, h16, hm⟩ := obind hm
          refine X_reg_seq ty_ok Γok hL [(5, .c (slices_pdqsortOrdered_int_w_r r15) (slices_pdqsortOrdered_int_w_n r15) (slices_pdqsortOrdered_int_w_o (r13.2.2, (w64 (r13.1 + 1)), b1, limit2) r15))] (.cons (slices_pdqsortOrdered_int_w_cR h16) .nil) (by kernel_rfl) ?_
          refine X_reg ty_ok Γok hL [] .nil (by kernel_rfl) ?_
          refine ibN ?_
          obtain rfl := some_inj hm
          exact thN ⟨_, rfl, Wk_J hL ⟨[(0, []), (1, []), (2, []), (3, []), (8, []), (9, [])], [(0, 0, [])], [], 48⟩ (by kernel_rfl)⟩
theorem slices_pdqsortOrdered_int_w_okn : ∀ k, FnOK Try.prog 228 (slices_pdqsortOrdered_int_w_SR (slices_pdqsortOrdered_int_w_k k))
  | 0 => ⟨fun args w => Try.call228 args w, fun vs w F ds obs κ hp => by obtain ⟨x, y, _, _, h⟩ := hp; cases h⟩
  | k + 1 => slices_pdqsortOrdered_int_w_okF (slices_pdqsortOrdered_int_w_okn k)
theorem slices_pdqsortOrdered_int_w_ok : FnOK Try.prog 228 slices_pdqsortOrdered_int_w_S := slices_pdqsortOrdered_int_w_okn 4294967296
abbrev slices_Sort_int_w_r (y : (List Int)) : AV := .tup []
abbrev slices_Sort_int_w_n (y : (List Int)) : List Obj' := []
abbrev slices_Sort_int_w_o (x : (List Int)) (y : (List Int)) : List Obj' := [.arr 3 1 (List.map Enc.e y)]
noncomputable def slices_Sort_int_w_S : FnSpec := modS [.sl] (fun x : (List Int) => [.sc undef]) (fun x : (List Int) => [.arr 3 1 (List.map Enc.e x)]) (fun x : (List Int) => slices_Sort_int_w x) slices_Sort_int_w_r slices_Sort_int_w_n slices_Sort_int_w_o
theorem slices_Sort_int_w_c {x : List Int} {y : (List Int)} (h : slices_Sort_int_w x = some y) : CallOK slices_Sort_int_w_S [.sc undef] [.arr 3 1 (List.map Enc.e x)] (slices_Sort_int_w_r y) (slices_Sort_int_w_n y) (slices_Sort_int_w_o x y) :=
  modS_call (by
    rintro a0 b0 h hO
    have q0 : a0 = b0 := Enc.inj _ _ (congrArg (fun l => D.sl 1 (obL l 0)) hO)
    subst q0; rfl) (x := x) h
theorem slices_Sort_int_w_ok : FnOK Try.prog 173 slices_Sort_int_w_S := by
  have Γok : ∀ f S, lookF f [(229, math_bits_Len_S), (228, slices_pdqsortOrdered_int_w_S)] = some S → FnOK Try.prog f S := lookF_ok (allF_cons math_bits_Len_ok (allF_cons slices_pdqsortOrdered_int_w_ok allF_nil))
  have Γlive : Live (fun f => lookF f [(229, math_bits_Len_S), (228, slices_pdqsortOrdered_int_w_S)]) := lookF_live (allL_cons modS_live (allL_cons modS_live allL_nil))
  refine fnOK_mod ty_ok (fun args w => Try.call173 args w) Try.func173 rfl [] (by rw [Try.results173]) 11 Try.ntmps173 16 rfl (fun _ => by first | exact Nat.zero_le _ | (simp)) ?_
  rintro x y cx hm hL
  have hm : slices_Sort_int_w x = some y := hm
  have hL : cx.L = 1 := hL
  unfold slices_Sort_int_w at hm
  refine X_reg_seq ty_ok Γok hL [(1, .n (x.length : Int))] (.cons (len_m Enc.e x) .nil) (by kernel_rfl) ?_
  obtain ⟨r, h, hm⟩ := obind hm
  obtain ⟨r1, h1, hm⟩ := obind hm
  refine X_reg ty_ok Γok hL [(4, .c (math_bits_Len_r r) (math_bits_Len_n r) (math_bits_Len_o (⟨(IntKind.u64.wrap ((x.length : Int)))⟩ : IK .u64) r)), (5, .c (slices_pdqsortOrdered_int_w_r r1) (slices_pdqsortOrdered_int_w_n r1) (slices_pdqsortOrdered_int_w_o (x, 0, (x.length : Int), r) r1))] (.cons (math_bits_Len_c h) (.cons (slices_pdqsortOrdered_int_w_c h1) .nil)) (by kernel_rfl) ?_
  obtain rfl := some_inj hm
  exact X_fin [] [] (by kernel_rfl) trivial
abbrev i_DelayQuantile_r (y : Int × Bool) : AV := .tup [.dat (Enc.e y.1), .dat (Enc.e y.2)]
abbrev i_DelayQuantile_n (y : Int × Bool) : List Obj' := []
abbrev i_DelayQuantile_o (x : (List Visit) × Int × Int) (y : Int × Bool) : List Obj' := []
noncomputable def i_DelayQuantile_S : FnSpec := modS [.rd, .rd, .rd] (fun x : (List Visit) × Int × Int => [Enc.e x.1, Enc.e x.2.1, Enc.e x.2.2]) (fun x : (List Visit) × Int × Int => []) (fun x : (List Visit) × Int × Int => i_DelayQuantile x.1 x.2.1 x.2.2) i_DelayQuantile_r i_DelayQuantile_n i_DelayQuantile_o
theorem i_DelayQuantile_c {list : List Visit} {num : Int} {den : Int} {y : Int × Bool} (h : i_DelayQuantile list num den = some y) : CallOK i_DelayQuantile_S [Enc.e list, Enc.e num, Enc.e den] [] (i_DelayQuantile_r y) (i_DelayQuantile_n y) (i_DelayQuantile_o (list, num, den) y) :=
  modS_call (by
    rintro ⟨a0, a1, a2⟩ ⟨b0, b1, b2⟩ h hO
    have q0 : a0 = b0 := Enc.inj _ _ (congrArg (fun l => List.getD l 0 (.sc undef)) h)
    have q1 : a1 = b1 := Enc.inj _ _ (congrArg (fun l => List.getD l 1 (.sc undef)) h)
    have q2 : a2 = b2 := Enc.inj _ _ (congrArg (fun l => List.getD l 2 (.sc undef)) h)
    subst q0; subst q1; subst q2; rfl) (x := (list, num, den)) h
theorem i_DelayQuantile_ok : FnOK Try.prog 73 i_DelayQuantile_S := by
  have Γok : ∀ f S, lookF f [(168, i_IsValidVisits_S), (173, slices_Sort_int_w_S)] = some S → FnOK Try.prog f S := lookF_ok (allF_cons i_IsValidVisits_ok (allF_cons slices_Sort_int_w_ok allF_nil))
  have Γlive : Live (fun f => lookF f [(168, i_IsValidVisits_S), (173, slices_Sort_int_w_S)]) := lookF_live (allL_cons modS_live (allL_cons modS_live allL_nil))
  refine fnOK_mod ty_ok (fun args w => Try.call73 args w) Try.func73 rfl [.tmp 6, .tmp 7] (by rw [Try.results73]) 69 Try.ntmps73 16 rfl (fun _ => by first | exact Nat.zero_le _ | (simp)) ?_
  rintro ⟨list, num, den⟩ y cx hm hL
  have hm : i_DelayQuantile list num den = some y := hm
  have hL : cx.L = 0 := hL
  unfold i_DelayQuantile at hm
  refine X_reg_seq ty_ok Γok hL [] .nil (by kernel_rfl) ?_
  refine Ok_seq ?_
  obtain ⟨r, h, hm⟩ := obind hm
  obtain ⟨v, hv, hk⟩ := obind hm
  refine X_join (n := 69) (fun (v : Bool) => (⟨[(0, .dat (Enc.e list)), (1, .dat (.sc (.int .i64 num))), (2, .dat (.sc (.int .i64 den))), (32, .dat (.sc (.bool v)))], [], 32⟩ : X)) v ?_ ?_
  · have hm := hv
    rcases btf (!r) with hb | hb
    · have hm := it hb hm
      obtain rfl := some_inj hm
      refine X_reg ty_ok Γok hL [(1, .c (i_IsValidVisits_r r) (i_IsValidVisits_n r) (i_IsValidVisits_o list r)), (3, .b true)] (.cons (i_IsValidVisits_c h) (.cons hb .nil)) (by kernel_rfl) ?_
      exact thN (Wk_J hL ⟨[(0, []), (1, []), (2, []), (32, [])], [], [], 32⟩ (by kernel_rfl))
    · have hm := ie hb hm
      rcases btf ((list.length : Int) == 0) with hb1 | hb1
      · have hm := it hb1 hm
        obtain rfl := some_inj hm
        refine X_reg ty_ok Γok hL [(1, .c (i_IsValidVisits_r r) (i_IsValidVisits_n r) (i_IsValidVisits_o list r)), (3, .b false), (5, .n (list.length : Int)), (8, .b true)] (.cons (i_IsValidVisits_c h) (.cons hb (.cons (len_m Enc.e list) (.cons hb1 .nil)))) (by kernel_rfl) ?_
        exact thN (Wk_J hL ⟨[(0, []), (1, []), (2, []), (32, [])], [], [], 32⟩ (by kernel_rfl))
      · have hm := ie hb1 hm
        rcases btf (decide (num < 1)) with hb2 | hb2
        · have hm := it hb2 hm
          obtain rfl := some_inj hm
          refine X_reg ty_ok Γok hL [(1, .c (i_IsValidVisits_r r) (i_IsValidVisits_n r) (i_IsValidVisits_o list r)), (3, .b false), (5, .n (list.length : Int)), (8, .b false), (12, .b true)] (.cons (i_IsValidVisits_c h) (.cons hb (.cons (len_m Enc.e list) (.cons hb1 (.cons hb2 .nil))))) (by kernel_rfl) ?_
          exact thN (Wk_J hL ⟨[(0, []), (1, []), (2, []), (32, [])], [], [], 32⟩ (by kernel_rfl))
        · have hm := ie hb2 hm
          rcases btf (decide (den < num)) with hb3 | hb3
          · have hm := it hb3 hm
            obtain rfl := some_inj hm
            refine X_reg ty_ok Γok hL [(1, .c (i_IsValidVisits_r r) (i_IsValidVisits_n r) (i_IsValidVisits_o list r)), (3, .b false), (5, .n (list.length : Int)), (8, .b false), (12, .b false), (17, .b true)] (.cons (i_IsValidVisits_c h) (.cons hb (.cons (len_m Enc.e list) (.cons hb1 (.cons hb2 (.cons hb3 .nil)))))) (by kernel_rfl) ?_
            exact thN (Wk_J hL ⟨[(0, []), (1, []), (2, []), (32, [])], [], [], 32⟩ (by kernel_rfl))
          · have hm := ie hb3 hm
            obtain rfl := some_inj hm
            refine X_reg ty_ok Γok hL [(1, .c (i_IsValidVisits_r r) (i_IsValidVisits_n r) (i_IsValidVisits_o list r)), (3, .b false), (5, .n (list.length : Int)), (8, .b false), (12, .b false), (17, .b false)] (.cons (i_IsValidVisits_c h) (.cons hb (.cons (len_m Enc.e list) (.cons hb1 (.cons hb2 (.cons hb3 .nil)))))) (by kernel_rfl) ?_
            exact thN (Wk_J hL ⟨[(0, []), (1, []), (2, []), (32, [])], [], [], 32⟩ (by kernel_rfl))
  have hm := hk
  refine X_cond v (by kernel_rfl) (fun hc => ?_) (fun hc => ?_)
  · have hm := it hc hm
    refine X_reg_seq ty_ok Γok hL [] .nil (by kernel_rfl) ?_
    obtain rfl := some_inj hm
    refine Ok_ret ?_
    repeat (first | refine thR ?_ | refine ibR ?_)
    exact X_fin [] [] (by kernel_rfl) trivial
  · have hm := ie hc hm
    refine X_skip ?_
    refine thN ?_
    obtain ⟨u, h1, hm⟩ := obind hm
    refine X_reg_seq ty_ok Γok hL [(1, .n (list.length : Int)), (2, .l (List.map Enc.e (List.replicate (list.length : Int).toNat (0 : Int))))] (.cons (len_m Enc.e list) (.cons (mk_p (b := 8) (chk_t h1) rfl) (.cons (rep_m Enc.e (list.length : Int).toNat (0 : Int)) .nil))) (by kernel_rfl) ?_
    refine Ok_seq ?_
    refine X_reg_seq ty_ok Γok hL [(1, .n (list.length : Int))] (.cons (len_m Enc.e list) .nil) (by kernel_rfl) ?_
    obtain ⟨i1, hv1, hk1⟩ := obind hm
    refine X_tail (n := 69) (fun (i1 : List Int) => (⟨[(1, .dat (.sc (.int .i64 num))), (2, .dat (.sc (.int .i64 den))), (8, .own 16)], [(16, some (.arr 3 1 (List.map Enc.e i1)))], 48⟩ : X)) i1 ?_ ?_
    · have hm := hv1
      refine Ok_block ?_
      refine X_loop (n := 69) (step := i_DelayQuantile_L1 list) (fun ((v1, i) : Int × (List Int)) => (⟨[(1, .dat (.sc (.int .i64 num))), (2, .dat (.sc (.int .i64 den))), (8, .own 16), (36, .dat (Enc.e list)), (37, .dat (.sc (.int .i64 (list.length : Int)))), (38, .dat (.sc (.int .i64 v1)))], [(16, some (.arr 3 1 (List.map Enc.e i)))], 48⟩ : X)) hm (Wk_J hL ⟨[(1, []), (2, []), (8, []), (36, []), (37, []), (38, [])], [(16, 64, [])], [], 48⟩ (by kernel_rfl)) ?_
      rintro ⟨v1, i⟩ r0 hm hb4
      rw [i_DelayQuantile_L1] at hm
      refine X_reg_seq ty_ok Γok hL [] .nil (by kernel_rfl) ?_
      refine Ok_seq ?_
      refine X_cond (decide (v1 < (list.length : Int))) (by kernel_rfl) (fun hc1 => ?_) (fun hc1 => ?_)
      · have hm := it hc1 hm
        refine X_skip ?_
        refine thN ?_
        refine Ok_seq ?_
        refine Ok_block ?_
        obtain ⟨e, h2, hm⟩ := obind hm
        refine X_reg_seq ty_ok Γok hL [(1, .d (Enc.e e))] (.cons (idx_m (f := Enc.e) h2) .nil) (by kernel_rfl) ?_
        obtain ⟨e1, h3, hm⟩ := obind hm
        refine X_reg ty_ok Γok hL [(7, .d (Enc.e e1)), (8, .sd (Enc.e e1) (List.map Enc.e (i.set v1.toNat (w64 (e.Actual - e.Planned)))))] (.cons (idx_m (f := Enc.e) h3) (.cons (idx_m2 (f := Enc.e) h3) (.cons (set_m Enc.e i v1.toNat (w64 (e.Actual - e.Planned))) .nil))) (by kernel_rfl) ?_
        refine ibN ?_
        refine thN ?_
        refine X_reg ty_ok Γok hL [] .nil (by kernel_rfl) ?_
        obtain rfl := some_inj hm
        exact thN ⟨_, rfl, Wk_J hL ⟨[(1, []), (2, []), (8, []), (36, []), (37, []), (38, [])], [(16, 16, [])], [], 48⟩ (by kernel_rfl)⟩
      · have hm := ie hc1 hm
        obtain rfl := some_inj hm
        obtain rfl := hb4 _ rfl
        refine Ok_exit ?_
        refine thE ?_
        refine thE ?_
        refine ibE ?_
        exact thN (Wk_J hL ⟨[(1, []), (2, []), (8, [])], [(16, 16, [])], [], 48⟩ (by kernel_rfl))
    intro s hw
    have hm := hk1
    refine thN ?_
    refine Ok_weak hw ?_
    obtain ⟨r1, h4, hm⟩ := obind hm
    refine X_reg_seq ty_ok Γok hL [(1, .c (slices_Sort_int_w_r r1) (slices_Sort_int_w_n r1) (slices_Sort_int_w_o i1 r1))] (.cons (slices_Sort_int_w_c h4) .nil) (by kernel_rfl) ?_
    refine X_reg_seq ty_ok Γok hL [] .nil (by kernel_rfl) ?_
    obtain ⟨v3, hv2, hk2⟩ := obind hm
    refine X_join (n := 69) (fun (v3 : Int) => (⟨[(8, .own 16), (11, .dat (.sc (.int .i64 v3)))], [(16, some (.arr 3 1 (List.map Enc.e r1)))], 48⟩ : X)) v3 ?_ ?_
    · have hm := hv2
      refine Ok_block ?_
      refine X_loop (n := 69) (step := i_DelayQuantile_L2 num den r1) (fun (v2 : Int) => (⟨[(1, .dat (.sc (.int .i64 num))), (2, .dat (.sc (.int .i64 den))), (8, .own 16), (11, .dat (.sc (.int .i64 v2)))], [(16, some (.arr 3 1 (List.map Enc.e r1)))], 48⟩ : X)) hm (Wk_J hL ⟨[(1, []), (2, []), (8, []), (11, [])], [(16, 16, [])], [], 48⟩ (by kernel_rfl)) ?_
      rintro v2 r0 hm hb5
      rw [i_DelayQuantile_L2] at hm
      refine Ok_seq ?_
      refine X_reg_seq ty_ok Γok hL [(6, .n (r1.length : Int))] (.cons (len_m Enc.e r1) .nil) (by kernel_rfl) ?_
      refine X_cond (decide ((w64 ((w64 (v2 + 1)) * den)) < (w64 (num * (r1.length : Int))))) (by kernel_rfl) (fun hc2 => ?_) (fun hc2 => ?_)
      · have hm := it hc2 hm
        refine X_skip ?_
        refine thN ?_
        refine Ok_block ?_
        refine X_reg ty_ok Γok hL [] .nil (by kernel_rfl) ?_
        refine ibN ?_
        obtain rfl := some_inj hm
        exact thN ⟨_, rfl, Wk_J hL ⟨[(1, []), (2, []), (8, []), (11, [])], [(16, 16, [])], [], 48⟩ (by kernel_rfl)⟩
      · have hm := ie hc2 hm
        obtain rfl := some_inj hm
        obtain rfl := hb5 _ rfl
        refine Ok_exit ?_
        refine thE ?_
        refine thE ?_
        refine ibE ?_
        exact thN (Wk_J hL ⟨[(8, []), (11, [])], [(16, 16, [])], [], 48⟩ (by kernel_rfl))
    have hm := hk2
    obtain ⟨e2, h5, hm⟩ := obind hm
    refine X_reg_seq ty_ok Γok hL [(2, .d (Enc.e e2)), (3, .d (Enc.e e2))] (.cons (idx_m (f := Enc.e) h5) (.cons (idx_m2 (f := Enc.e) h5) .nil)) (by kernel_rfl) ?_
    obtain rfl := some_inj hm
    refine Ok_ret ?_
    repeat (first | refine thR ?_ | refine ibR ?_)
    exact X_fin [] [] (by kernel_rfl) trivial
abbrev s_l1Cur_one_r (y : Bool × l1Cur) : AV := .dat (Enc.e y.1)
abbrev s_l1Cur_one_n (y : Bool × l1Cur) : List Obj' := []
abbrev s_l1Cur_one_o (x : l1Cur × Int) (y : Bool × l1Cur) : List Obj' := [.box [.dat (Enc.e y.2.code_), .dat (.sc (.int .i64 y.2.at_)), .dat (.sc (.int .u64 y.2.seed_.v))]]
noncomputable def s_l1Cur_one_S : FnSpec := modS [.bx, .rd] (fun x : l1Cur × Int => [.sc undef, Enc.e x.2]) (fun x : l1Cur × Int => [.box [.dat (Enc.e x.1.code_), .dat (.sc (.int .i64 x.1.at_)), .dat (.sc (.int .u64 x.1.seed_.v))]]) (fun x : l1Cur × Int => s_l1Cur_one x.1 x.2) s_l1Cur_one_r s_l1Cur_one_n s_l1Cur_one_o
theorem s_l1Cur_one_c {c : l1Cur} {n : Int} {y : Bool × l1Cur} (h : s_l1Cur_one c n = some y) : CallOK s_l1Cur_one_S [.sc undef, Enc.e n] [.box [.dat (Enc.e c.code_), .dat (.sc (.int .i64 c.at_)), .dat (.sc (.int .u64 c.seed_.v))]] (s_l1Cur_one_r y) (s_l1Cur_one_n y) (s_l1Cur_one_o (c, n) y) :=
  modS_call (by
    rintro ⟨a0, a1⟩ ⟨b0, b1⟩ h hO
    have q0 : a0 = b0 := Enc.inj _ _ (congrArg (fun l => D.agg (obD l 0)) hO)
    have q1 : a1 = b1 := Enc.inj _ _ (congrArg (fun l => List.getD l 1 (.sc undef)) h)
    subst q0; subst q1; rfl) (x := (c, n)) h
theorem s_l1Cur_one_ok : FnOK Try.prog 106 s_l1Cur_one_S := by
  have Γok : ∀ f S, lookF f [(103, s_l1Cur_pick_S)] = some S → FnOK Try.prog f S := lookF_ok (allF_cons s_l1Cur_pick_ok allF_nil)
  have Γlive : Live (fun f => lookF f [(103, s_l1Cur_pick_S)]) := lookF_live (allL_cons modS_live allL_nil)
  refine fnOK_mod ty_ok (fun args w => Try.call106 args w) Try.func106 rfl [.tmp 4] (by rw [Try.results106]) 9 Try.ntmps106 16 rfl (fun _ => by first | exact Nat.zero_le _ | (simp)) ?_
  rintro ⟨c, n⟩ y cx hm hL
  have hm : s_l1Cur_one c n = some y := hm
  have hL : cx.L = 1 := hL
  unfold s_l1Cur_one at hm
  refine X_reg_seq ty_ok Γok hL [] .nil (by kernel_rfl) ?_
  obtain ⟨r, h, hm⟩ := obind hm
  refine X_reg_seq ty_ok Γok hL [(2, .c (s_l1Cur_pick_r r) (s_l1Cur_pick_n r) (s_l1Cur_pick_o (c, n) r))] (.cons (s_l1Cur_pick_c h) .nil) (by kernel_rfl) ?_
  obtain rfl := some_inj hm
  refine Ok_ret ?_
  repeat (first | refine thR ?_ | refine ibR ?_)
  exact X_fin [] [] (by kernel_rfl) trivial
abbrev s_l1Cur_limits22_r (y : Int × Int × l1Cur) : AV := .tup [.dat (Enc.e y.1), .dat (Enc.e y.2.1)]
abbrev s_l1Cur_limits22_n (y : Int × Int × l1Cur) : List Obj' := []
abbrev s_l1Cur_limits22_o (x : l1Cur) (y : Int × Int × l1Cur) : List Obj' := [.box [.dat (Enc.e y.2.2.code_), .dat (.sc (.int .i64 y.2.2.at_)), .dat (.sc (.int .u64 y.2.2.seed_.v))]]
noncomputable def s_l1Cur_limits22_S : FnSpec := modS [.bx] (fun x : l1Cur => [.sc undef]) (fun x : l1Cur => [.box [.dat (Enc.e x.code_), .dat (.sc (.int .i64 x.at_)), .dat (.sc (.int .u64 x.seed_.v))]]) (fun x : l1Cur => s_l1Cur_limits22 x) s_l1Cur_limits22_r s_l1Cur_limits22_n s_l1Cur_limits22_o
theorem s_l1Cur_limits22_c {c : l1Cur} {y : Int × Int × l1Cur} (h : s_l1Cur_limits22 c = some y) : CallOK s_l1Cur_limits22_S [.sc undef] [.box [.dat (Enc.e c.code_), .dat (.sc (.int .i64 c.at_)), .dat (.sc (.int .u64 c.seed_.v))]] (s_l1Cur_limits22_r y) (s_l1Cur_limits22_n y) (s_l1Cur_limits22_o c y) :=
  modS_call (by
    rintro a0 b0 h hO
    have q0 : a0 = b0 := Enc.inj _ _ (congrArg (fun l => D.agg (obD l 0)) hO)
    subst q0; rfl) (x := c) h
theorem s_l1Cur_limits22_ok : FnOK Try.prog 174 s_l1Cur_limits22_S := by
  have Γok : ∀ f S, lookF f [(167, s_l1Cur_among_S), (106, s_l1Cur_one_S), (103, s_l1Cur_pick_S)] = some S → FnOK Try.prog f S := lookF_ok (allF_cons s_l1Cur_among_ok (allF_cons s_l1Cur_one_ok (allF_cons s_l1Cur_pick_ok allF_nil)))
  have Γlive : Live (fun f => lookF f [(167, s_l1Cur_among_S), (106, s_l1Cur_one_S), (103, s_l1Cur_pick_S)]) := lookF_live (allL_cons modS_live (allL_cons modS_live (allL_cons modS_live allL_nil)))
  refine fnOK_mod ty_ok (fun args w => Try.call174 args w) Try.func174 rfl [.tmp 2, .tmp 3] (by rw [Try.results174]) 24 Try.ntmps174 16 rfl (fun _ => by first | exact Nat.zero_le _ | (simp)) ?_
  rintro c y cx hm hL
  have hm : s_l1Cur_limits22 c = some y := hm
  have hL : cx.L = 1 := hL
  unfold s_l1Cur_limits22 at hm
  refine X_reg_seq ty_ok Γok hL [] .nil (by kernel_rfl) ?_
  obtain ⟨r, h, hm⟩ := obind hm
  refine X_reg_seq ty_ok Γok hL [(2, .fz [64] [] []), (2, .c (s_l1Cur_among_r r) (s_l1Cur_among_n r) (s_l1Cur_among_o (c, ([0, 1, 2, 600, (-1)] : List Int)) r))] (.cons (s_l1Cur_among_c h) .nil) (by kernel_rfl) ?_
  obtain ⟨vv1, hv, hk⟩ := obind hm
  refine X_join (n := 24) (fun ((v, v1, v2, v3) : Int × (List UInt8) × Int × Int) => (⟨[(0, .ref 0 0), (4, .dat (.sc (.int .i64 v)))], [(0, some (.box [.dat (Enc.e v1), .dat (.sc (.int .i64 v2)), .dat (.sc (.int .u64 v3))]))], 48⟩ : X)) vv1 ?_ ?_
  · have hm := hv
    obtain ⟨vv, hv1, hk1⟩ := obind hm
    refine X_join (n := 24) (fun ((v4, v5, v6, v7) : Bool × (List UInt8) × Int × Int) => (⟨[(0, .ref 0 0), (4, .dat (.sc (.int .i64 r.1))), (14, .dat (.sc (.bool v4)))], [(0, some (.box [.dat (Enc.e v5), .dat (.sc (.int .i64 v6)), .dat (.sc (.int .u64 v7))]))], 48⟩ : X)) vv ?_ ?_
    · have hm := hv1
      rcases btf (decide (r.1 < 0)) with hb | hb
      · have hm := it hb hm
        obtain ⟨r1, h1, hm⟩ := obind hm
        obtain rfl := some_inj hm
        refine X_reg ty_ok Γok hL [(2, .b true), (4, .c (s_l1Cur_one_r r1) (s_l1Cur_one_n r1) (s_l1Cur_one_o (r.2, 8) r1))] (.cons hb (.cons (s_l1Cur_one_c h1) .nil)) (by kernel_rfl) ?_
        exact thN (Wk_J hL ⟨[(0, []), (4, []), (14, [])], [(0, 0, [])], [], 48⟩ (by kernel_rfl))
      · have hm := ie hb hm
        obtain rfl := some_inj hm
        refine X_reg ty_ok Γok hL [(2, .b false)] (.cons hb .nil) (by kernel_rfl) ?_
        exact thN (Wk_J hL ⟨[(0, []), (4, []), (14, [])], [(0, 0, [])], [], 48⟩ (by kernel_rfl))
    obtain ⟨v4, v5, v6, v7⟩ := vv
    have hm := hk1
    refine X_cond v4 (by kernel_rfl) (fun hc => ?_) (fun hc => ?_)
    · have hm := it hc hm
      refine X_reg ty_ok Γok hL [] .nil (by kernel_rfl) ?_
      obtain rfl := some_inj hm
      exact thN (Wk_J hL ⟨[(0, []), (4, [])], [(0, 0, [])], [], 48⟩ (by kernel_rfl))
    · have hm := ie hc hm
      refine X_skip ?_
      obtain rfl := some_inj hm
      exact thN (Wk_J hL ⟨[(0, []), (4, [])], [(0, 0, [])], [], 48⟩ (by kernel_rfl))
  obtain ⟨v, v1, v2, v3⟩ := vv1
  have hm := hk
  obtain ⟨r2, h2, hm⟩ := obind hm
  obtain ⟨u, h3, hm⟩ := obind hm
  obtain ⟨u1, h4, hm⟩ := obind hm
  obtain ⟨r3, h5, hm⟩ := obind hm
  refine X_reg_seq ty_ok Γok hL [(4, .c (s_l1Cur_pick_r r2) (s_l1Cur_pick_n r2) (s_l1Cur_pick_o ((⟨v1, v2, (⟨v3⟩ : IK .u64)⟩ : l1Cur), 24) r2)), (7, .fz [80] [] []), (7, .l (List.map Enc.e ((([0, 2, 3, 5, 600, (-1), 601] : List Int).take (w64 (5 + (w64 (r2.1.tdiv 11)))).toNat).drop (0 : Int).toNat))), (8, .c (s_l1Cur_among_r r3) (s_l1Cur_among_n r3) (s_l1Cur_among_o (r2.2, ((([0, 2, 3, 5, 600, (-1), 601] : List Int).take (w64 (5 + (w64 (r2.1.tdiv 11)))).toNat).drop (0 : Int).toNat)) r3))] (.cons (s_l1Cur_pick_c h2) (.cons (chk_t h3) (.cons (cut_p (f := Enc.e) (l := ([0, 2, 3, 5, 600, (-1), 601] : List Int)) (lo := 0) (hi := (w64 (5 + (w64 (r2.1.tdiv 11))))) (chk_t h4)) (.cons (cut_m Enc.e ([0, 2, 3, 5, 600, (-1), 601] : List Int) (0 : Int).toNat (w64 (5 + (w64 (r2.1.tdiv 11)))).toNat) (.cons (s_l1Cur_among_c h5) .nil))))) (by kernel_rfl) ?_
  obtain rfl := some_inj hm
  refine Ok_ret ?_
  repeat (first | refine thR ?_ | refine ibR ?_)
  exact X_fin [] [] (by kernel_rfl) trivial
abbrev s_DrawBestBuffer_r (y : (List Visit) × Int × Int × Int) : AV := .tup [.own 0, .dat (Enc.e y.2.1), .dat (Enc.e y.2.2.1), .dat (Enc.e y.2.2.2)]
abbrev s_DrawBestBuffer_n (y : (List Visit) × Int × Int × Int) : List Obj' := [.arr 206 4 (List.map Enc.e y.1)]
abbrev s_DrawBestBuffer_o (x : (List UInt8)) (y : (List Visit) × Int × Int × Int) : List Obj' := []
noncomputable def s_DrawBestBuffer_S : FnSpec := modS [.rd] (fun x : (List UInt8) => [Enc.e x]) (fun x : (List UInt8) => []) (fun x : (List UInt8) => s_DrawBestBuffer x) s_DrawBestBuffer_r s_DrawBestBuffer_n s_DrawBestBuffer_o
theorem s_DrawBestBuffer_c {code : List UInt8} {y : (List Visit) × Int × Int × Int} (h : s_DrawBestBuffer code = some y) : CallOK s_DrawBestBuffer_S [Enc.e code] [] (s_DrawBestBuffer_r y) (s_DrawBestBuffer_n y) (s_DrawBestBuffer_o code y) :=
  modS_call (by
    rintro a0 b0 h hO
    have q0 : a0 = b0 := Enc.inj _ _ (congrArg (fun l => List.getD l 0 (.sc undef)) h)
    subst q0; rfl) (x := code) h
theorem s_DrawBestBuffer_ok : FnOK Try.prog 74 s_DrawBestBuffer_S := by
  have Γok : ∀ f S, lookF f [(166, s_l1Cur_visits_S), (174, s_l1Cur_limits22_S), (103, s_l1Cur_pick_S), (167, s_l1Cur_among_S)] = some S → FnOK Try.prog f S := lookF_ok (allF_cons s_l1Cur_visits_ok (allF_cons s_l1Cur_limits22_ok (allF_cons s_l1Cur_pick_ok (allF_cons s_l1Cur_among_ok allF_nil))))
  have Γlive : Live (fun f => lookF f [(166, s_l1Cur_visits_S), (174, s_l1Cur_limits22_S), (103, s_l1Cur_pick_S), (167, s_l1Cur_among_S)]) := lookF_live (allL_cons modS_live (allL_cons modS_live (allL_cons modS_live (allL_cons modS_live allL_nil))))
  refine fnOK_mod ty_ok (fun args w => Try.call74 args w) Try.func74 rfl [.tmp 2, .tmp 3, .tmp 4, .tmp 5] (by rw [Try.results74]) 31 Try.ntmps74 16 rfl (fun _ => by first | exact Nat.zero_le _ | (simp)) ?_
  rintro code y cx hm hL
  have hm : s_DrawBestBuffer code = some y := hm
  have hL : cx.L = 0 := hL
  unfold s_DrawBestBuffer at hm
  refine X_reg_seq ty_ok Γok hL [] .nil (by kernel_rfl) ?_
  refine X_reg_seq ty_ok Γok hL [] .nil (by kernel_rfl) ?_
  obtain ⟨r, h, hm⟩ := obind hm
  refine X_reg_seq ty_ok Γok hL [(1, .c (s_l1Cur_visits_r r) (s_l1Cur_visits_n r) (s_l1Cur_visits_o (⟨code, 0, (⟨0⟩ : IK .u64)⟩ : l1Cur) r))] (.cons (s_l1Cur_visits_c h) .nil) (by kernel_rfl) ?_
  obtain ⟨r1, h1, hm⟩ := obind hm
  refine X_reg_seq ty_ok Γok hL [(1, .c (s_l1Cur_limits22_r r1) (s_l1Cur_limits22_n r1) (s_l1Cur_limits22_o r.2 r1))] (.cons (s_l1Cur_limits22_c h1) .nil) (by kernel_rfl) ?_
  obtain ⟨r2, h2, hm⟩ := obind hm
  obtain ⟨u, h3, hm⟩ := obind hm
  obtain ⟨u1, h4, hm⟩ := obind hm
  obtain ⟨r3, h5, hm⟩ := obind hm
  refine X_reg_seq ty_ok Γok hL [(6, .c (s_l1Cur_pick_r r2) (s_l1Cur_pick_n r2) (s_l1Cur_pick_o (r1.2.2, 24) r2)), (9, .fz [368] [] []), (9, .l (List.map Enc.e ((([0, 2, 5, 60, (-1), 61] : List Int).take (w64 (4 + (w64 (r2.1.tdiv 11)))).toNat).drop (0 : Int).toNat))), (10, .c (s_l1Cur_among_r r3) (s_l1Cur_among_n r3) (s_l1Cur_among_o (r2.2, ((([0, 2, 5, 60, (-1), 61] : List Int).take (w64 (4 + (w64 (r2.1.tdiv 11)))).toNat).drop (0 : Int).toNat)) r3))] (.cons (s_l1Cur_pick_c h2) (.cons (chk_t h3) (.cons (cut_p (f := Enc.e) (l := ([0, 2, 5, 60, (-1), 61] : List Int)) (lo := 0) (hi := (w64 (4 + (w64 (r2.1.tdiv 11))))) (chk_t h4)) (.cons (cut_m Enc.e ([0, 2, 5, 60, (-1), 61] : List Int) (0 : Int).toNat (w64 (4 + (w64 (r2.1.tdiv 11)))).toNat) (.cons (s_l1Cur_among_c h5) .nil))))) (by kernel_rfl) ?_
  obtain rfl := some_inj hm
  refine Ok_ret ?_
  repeat (first | refine thR ?_ | refine ibR ?_)
  exact X_fin [160] [] (by kernel_rfl) trivial
abbrev i_areVisits_r (y : Bool) : AV := .dat (Enc.e y)
abbrev i_areVisits_n (y : Bool) : List Obj' := []
abbrev i_areVisits_o (x : (List Visit) × Int × Int) (y : Bool) : List Obj' := []
noncomputable def i_areVisits_S : FnSpec := modS [.rd, .rd, .rd] (fun x : (List Visit) × Int × Int => [Enc.e x.1, Enc.e x.2.1, Enc.e x.2.2]) (fun x : (List Visit) × Int × Int => []) (fun x : (List Visit) × Int × Int => i_areVisits x.1 x.2.1 x.2.2) i_areVisits_r i_areVisits_n i_areVisits_o
theorem i_areVisits_c {list : List Visit} {early : Int} {late : Int} {y : Bool} (h : i_areVisits list early late = some y) : CallOK i_areVisits_S [Enc.e list, Enc.e early, Enc.e late] [] (i_areVisits_r y) (i_areVisits_n y) (i_areVisits_o (list, early, late) y) :=
  modS_call (by
    rintro ⟨a0, a1, a2⟩ ⟨b0, b1, b2⟩ h hO
    have q0 : a0 = b0 := Enc.inj _ _ (congrArg (fun l => List.getD l 0 (.sc undef)) h)
    have q1 : a1 = b1 := Enc.inj _ _ (congrArg (fun l => List.getD l 1 (.sc undef)) h)
    have q2 : a2 = b2 := Enc.inj _ _ (congrArg (fun l => List.getD l 2 (.sc undef)) h)
    subst q0; subst q1; subst q2; rfl) (x := (list, early, late)) h
theorem i_areVisits_ok : FnOK Try.prog 175 i_areVisits_S := by
  have Γok : ∀ f S, lookF f [(168, i_IsValidVisits_S), (94, i_within_S)] = some S → FnOK Try.prog f S := lookF_ok (allF_cons i_IsValidVisits_ok (allF_cons i_within_ok allF_nil))
  have Γlive : Live (fun f => lookF f [(168, i_IsValidVisits_S), (94, i_within_S)]) := lookF_live (allL_cons modS_live (allL_cons modS_live allL_nil))
  refine fnOK_mod ty_ok (fun args w => Try.call175 args w) Try.func175 rfl [.tmp 6] (by rw [Try.results175]) 17 Try.ntmps175 16 rfl (fun _ => by first | exact Nat.zero_le _ | (simp)) ?_
  rintro ⟨list, early, late⟩ y cx hm hL
  have hm : i_areVisits list early late = some y := hm
  have hL : cx.L = 0 := hL
  unfold i_areVisits at hm
  refine X_reg_seq ty_ok Γok hL [] .nil (by kernel_rfl) ?_
  obtain ⟨r, h, hm⟩ := obind hm
  obtain ⟨v, hv, hk⟩ := obind hm
  refine X_join (n := 17) (fun (v : Bool) => (⟨[(6, .dat (.sc (.bool v)))], [], 32⟩ : X)) v ?_ ?_
  · have hm := hv
    rcases btf r with hb | hb
    · have hm := it hb hm
      obtain ⟨r1, h1, hm⟩ := obind hm
      rcases btf r1 with hb1 | hb1
      · have hm := it hb1 hm
        obtain ⟨r2, h2, hm⟩ := obind hm
        obtain rfl := some_inj hm
        refine X_reg ty_ok Γok hL [(1, .c (i_IsValidVisits_r r) (i_IsValidVisits_n r) (i_IsValidVisits_o list r)), (2, .b true), (4, .c (i_within_r r1) (i_within_n r1) (i_within_o (early, 0, 600) r1)), (6, .b true), (8, .c (i_within_r r2) (i_within_n r2) (i_within_o (late, 0, 600) r2))] (.cons (i_IsValidVisits_c h) (.cons hb (.cons (i_within_c h1) (.cons hb1 (.cons (i_within_c h2) .nil))))) (by kernel_rfl) ?_
        exact thN (Wk_J hL ⟨[(6, [])], [], [], 32⟩ (by kernel_rfl))
      · have hm := ie hb1 hm
        obtain rfl := some_inj hm
        refine X_reg ty_ok Γok hL [(1, .c (i_IsValidVisits_r r) (i_IsValidVisits_n r) (i_IsValidVisits_o list r)), (2, .b true), (4, .c (i_within_r r1) (i_within_n r1) (i_within_o (early, 0, 600) r1)), (6, .b false)] (.cons (i_IsValidVisits_c h) (.cons hb (.cons (i_within_c h1) (.cons hb1 .nil)))) (by kernel_rfl) ?_
        exact thN (Wk_J hL ⟨[(6, [])], [], [], 32⟩ (by kernel_rfl))
    · have hm := ie hb hm
      obtain rfl := some_inj hm
      refine X_reg ty_ok Γok hL [(1, .c (i_IsValidVisits_r r) (i_IsValidVisits_n r) (i_IsValidVisits_o list r)), (2, .b false)] (.cons (i_IsValidVisits_c h) (.cons hb .nil)) (by kernel_rfl) ?_
      exact thN (Wk_J hL ⟨[(6, [])], [], [], 32⟩ (by kernel_rfl))
  have hm := hk
  obtain rfl := some_inj hm
  refine Ok_ret ?_
  repeat (first | refine thR ?_ | refine ibR ?_)
  exact X_fin [] [] (by kernel_rfl) trivial
abbrev i_one_r (y : Int) : AV := .dat (Enc.e y)
abbrev i_one_n (y : Int) : List Obj' := []
abbrev i_one_o (x : Visit) (y : Int) : List Obj' := []
noncomputable def i_one_S : FnSpec := modS [.rd] (fun x : Visit => [Enc.e x]) (fun x : Visit => []) (fun x : Visit => i_one x) i_one_r i_one_n i_one_o
theorem i_one_c {a : Visit} {y : Int} (h : i_one a = some y) : CallOK i_one_S [Enc.e a] [] (i_one_r y) (i_one_n y) (i_one_o a y) :=
  modS_call (by
    rintro a0 b0 h hO
    have q0 : a0 = b0 := Enc.inj _ _ (congrArg (fun l => List.getD l 0 (.sc undef)) h)
    subst q0; rfl) (x := a) h
theorem i_one_ok : FnOK Try.prog 177 i_one_S := by
  have Γok : ∀ f S, lookF f [] = some S → FnOK Try.prog f S := lookF_ok allF_nil
  have Γlive : Live (fun f => lookF f []) := lookF_live allL_nil
  refine fnOK_mod ty_ok (fun args w => Try.call177 args w) Try.func177 rfl [.tmp 2] (by rw [Try.results177]) 3 Try.ntmps177 16 rfl (fun _ => by first | exact Nat.zero_le _ | (simp)) ?_
  rintro a y cx hm hL
  have hm : i_one a = some y := hm
  have hL : cx.L = 0 := hL
  unfold i_one at hm
  refine X_reg_seq ty_ok Γok hL [] .nil (by kernel_rfl) ?_
  refine X_reg_seq ty_ok Γok hL [] .nil (by kernel_rfl) ?_
  obtain rfl := some_inj hm
  refine Ok_ret ?_
  repeat (first | refine thR ?_ | refine ibR ?_)
  exact X_fin [] [] (by kernel_rfl) trivial
abbrev i_isPunctual_r (y : Bool) : AV := .dat (Enc.e y)
abbrev i_isPunctual_n (y : Bool) : List Obj' := []
abbrev i_isPunctual_o (x : Visit × Int × Int) (y : Bool) : List Obj' := []
noncomputable def i_isPunctual_S : FnSpec := modS [.rd, .rd, .rd] (fun x : Visit × Int × Int => [Enc.e x.1, Enc.e x.2.1, Enc.e x.2.2]) (fun x : Visit × Int × Int => []) (fun x : Visit × Int × Int => i_isPunctual x.1 x.2.1 x.2.2) i_isPunctual_r i_isPunctual_n i_isPunctual_o
theorem i_isPunctual_c {v : Visit} {early : Int} {late : Int} {y : Bool} (h : i_isPunctual v early late = some y) : CallOK i_isPunctual_S [Enc.e v, Enc.e early, Enc.e late] [] (i_isPunctual_r y) (i_isPunctual_n y) (i_isPunctual_o (v, early, late) y) :=
  modS_call (by
    rintro ⟨a0, a1, a2⟩ ⟨b0, b1, b2⟩ h hO
    have q0 : a0 = b0 := Enc.inj _ _ (congrArg (fun l => List.getD l 0 (.sc undef)) h)
    have q1 : a1 = b1 := Enc.inj _ _ (congrArg (fun l => List.getD l 1 (.sc undef)) h)
    have q2 : a2 = b2 := Enc.inj _ _ (congrArg (fun l => List.getD l 2 (.sc undef)) h)
    subst q0; subst q1; subst q2; rfl) (x := (v, early, late)) h
theorem i_isPunctual_ok : FnOK Try.prog 230 i_isPunctual_S := by
  have Γok : ∀ f S, lookF f [(94, i_within_S)] = some S → FnOK Try.prog f S := lookF_ok (allF_cons i_within_ok allF_nil)
  have Γlive : Live (fun f => lookF f [(94, i_within_S)]) := lookF_live (allL_cons modS_live allL_nil)
  refine fnOK_mod ty_ok (fun args w => Try.call230 args w) Try.func230 rfl [.tmp 6] (by rw [Try.results230]) 16 Try.ntmps230 16 rfl (fun _ => by first | exact Nat.zero_le _ | (simp)) ?_
  rintro ⟨v, early, late⟩ y cx hm hL
  have hm : i_isPunctual v early late = some y := hm
  have hL : cx.L = 0 := hL
  unfold i_isPunctual at hm
  refine X_reg_seq ty_ok Γok hL [] .nil (by kernel_rfl) ?_
  obtain ⟨r, h, hm⟩ := obind hm
  refine X_reg_seq ty_ok Γok hL [(8, .c (i_within_r r) (i_within_n r) (i_within_o ((w64 (v.Actual - v.Planned)), (w64 (0 - early)), late) r))] (.cons (i_within_c h) .nil) (by kernel_rfl) ?_
  obtain rfl := some_inj hm
  refine Ok_ret ?_
  repeat (first | refine thR ?_ | refine ibR ?_)
  exact X_fin [] [] (by kernel_rfl) trivial
abbrev i_shareOf__i_one_r (y : Int × Int) : AV := .tup [.dat (Enc.e y.1), .dat (Enc.e y.2)]
abbrev i_shareOf__i_one_n (y : Int × Int) : List Obj' := []
abbrev i_shareOf__i_one_o (x : (List Visit) × Int × Int) (y : Int × Int) : List Obj' := []
noncomputable def i_shareOf__i_one_S : FnSpec := modS [.rd, .rd, .rd, .fn 177 []] (fun x : (List Visit) × Int × Int => [Enc.e x.1, Enc.e x.2.1, Enc.e x.2.2, .agg []]) (fun x : (List Visit) × Int × Int => []) (fun x : (List Visit) × Int × Int => i_shareOf__i_one x.1 x.2.1 x.2.2) i_shareOf__i_one_r i_shareOf__i_one_n i_shareOf__i_one_o
theorem i_shareOf__i_one_c {list : List Visit} {early : Int} {late : Int} {y : Int × Int} (h : i_shareOf__i_one list early late = some y) : CallOK i_shareOf__i_one_S [Enc.e list, Enc.e early, Enc.e late, .agg []] [] (i_shareOf__i_one_r y) (i_shareOf__i_one_n y) (i_shareOf__i_one_o (list, early, late) y) :=
  modS_call (by
    rintro ⟨a0, a1, a2⟩ ⟨b0, b1, b2⟩ h hO
    have q0 : a0 = b0 := Enc.inj _ _ (congrArg (fun l => List.getD l 0 (.sc undef)) h)
    have q1 : a1 = b1 := Enc.inj _ _ (congrArg (fun l => List.getD l 1 (.sc undef)) h)
    have q2 : a2 = b2 := Enc.inj _ _ (congrArg (fun l => List.getD l 2 (.sc undef)) h)
    subst q0; subst q1; subst q2; rfl) (x := (list, early, late)) h
theorem i_shareOf__i_one_ok : FnOK Try.prog 176 i_shareOf__i_one_S := by
  have Γok : ∀ f S, lookF f [(230, i_isPunctual_S), (177, i_one_S)] = some S → FnOK Try.prog f S := lookF_ok (allF_cons i_isPunctual_ok (allF_cons i_one_ok allF_nil))
  have Γlive : Live (fun f => lookF f [(230, i_isPunctual_S), (177, i_one_S)]) := lookF_live (allL_cons modS_live (allL_cons modS_live allL_nil))
  refine fnOK_mod ty_ok (fun args w => Try.call176 args w) Try.func176 rfl [.tmp 8, .tmp 9] (by rw [Try.results176]) 37 Try.ntmps176 16 rfl (fun _ => by first | exact Nat.zero_le _ | (simp)) ?_
  rintro ⟨list, early, late⟩ y cx hm hL
  have hm : i_shareOf__i_one list early late = some y := hm
  have hL : cx.L = 0 := hL
  obtain ⟨weight, hf_weight⟩ : ∃ q, (fun (z0 : Visit) => i_one z0) = q := ⟨_, rfl⟩
  have hm : i_shareOf list early late weight = some y := by rw [← hf_weight]; exact hm
  unfold i_shareOf at hm
  refine X_reg_seq ty_ok Γok hL [] .nil (by kernel_rfl) ?_
  refine X_reg_seq ty_ok Γok hL [] .nil (by kernel_rfl) ?_
  refine Ok_seq ?_
  refine X_reg_seq ty_ok Γok hL [(1, .n (list.length : Int))] (.cons (len_m Enc.e list) .nil) (by kernel_rfl) ?_
  obtain ⟨vv, hv1, hk1⟩ := obind hm
  refine X_tail (n := 37) (fun ((v4, v5) : Int × Int) => (⟨[(3, .fn 177 []), (10, .dat (.sc (.int .i64 v4))), (11, .dat (.sc (.int .i64 v5)))], [], 32⟩ : X)) vv ?_ ?_
  · have hm := hv1
    refine Ok_block ?_
    refine X_loop (n := 37) (step := i_shareOf_L1 list early late weight) (fun ((v, v1, v2) : Int × Int × Int) => (⟨[(1, .dat (.sc (.int .i64 early))), (2, .dat (.sc (.int .i64 late))), (3, .fn 177 []), (10, .dat (.sc (.int .i64 v))), (11, .dat (.sc (.int .i64 v1))), (14, .dat (Enc.e list)), (15, .dat (.sc (.int .i64 (list.length : Int)))), (16, .dat (.sc (.int .i64 v2)))], [], 32⟩ : X)) hm (Wk_J hL ⟨[(1, []), (2, []), (3, []), (10, []), (11, []), (14, []), (15, []), (16, [])], [], [], 32⟩ (by kernel_rfl)) ?_
    rintro ⟨v, v1, v2⟩ r0 hm hb
    rw [i_shareOf_L1] at hm
    refine X_reg_seq ty_ok Γok hL [] .nil (by kernel_rfl) ?_
    refine Ok_seq ?_
    refine X_cond (decide (v2 < (list.length : Int))) (by kernel_rfl) (fun hc => ?_) (fun hc => ?_)
    · have hm := it hc hm
      refine X_skip ?_
      refine thN ?_
      refine Ok_seq ?_
      refine Ok_block ?_
      obtain ⟨e, h, hm⟩ := obind hm
      refine X_reg_seq ty_ok Γok hL [(0, .d (Enc.e e))] (.cons (idx_m (f := Enc.e) h) .nil) (by kernel_rfl) ?_
      obtain ⟨v3, hv, hk⟩ := obind hm
      refine X_join (n := 37) (fun (v3 : Int) => (⟨[(1, .dat (.sc (.int .i64 early))), (2, .dat (.sc (.int .i64 late))), (3, .fn 177 []), (10, .dat (.sc (.int .i64 v3))), (11, .dat (.sc (.int .i64 v1))), (13, .ref 16 0), (14, .dat (Enc.e list)), (15, .dat (.sc (.int .i64 (list.length : Int)))), (16, .dat (.sc (.int .i64 v2)))], [(16, some (.box [.dat (.sc (.int .i64 e.Stop)), .dat (.sc (.int .i64 e.Planned)), .dat (.sc (.int .i64 e.Actual)), .dat (.sc (.int .i64 e.Persons))]))], 48⟩ : X)) v3 ?_ ?_
      · have hm := hv
        obtain ⟨r, h1, hm⟩ := obind hm
        refine X_reg_seq ty_ok Γok hL [(3, .c (i_isPunctual_r r) (i_isPunctual_n r) (i_isPunctual_o (e, early, late) r))] (.cons (i_isPunctual_c h1) .nil) (by kernel_rfl) ?_
        refine X_cond r (by kernel_rfl) (fun hc1 => ?_) (fun hc1 => ?_)
        · have hm := it hc1 hm
          obtain ⟨r1, h2, hm⟩ := obind hm
          have h2 : i_one e = some r1 := by rw [← hf_weight] at h2; exact h2
          refine X_reg ty_ok Γok hL [(3, .c (i_one_r r1) (i_one_n r1) (i_one_o e r1))] (.cons (i_one_c h2) .nil) (by kernel_rfl) ?_
          obtain rfl := some_inj hm
          exact thN (Wk_J hL ⟨[(1, []), (2, []), (3, []), (10, []), (11, []), (13, []), (14, []), (15, []), (16, [])], [(16, 80, [])], [], 48⟩ (by kernel_rfl))
        · have hm := ie hc1 hm
          refine X_skip ?_
          obtain rfl := some_inj hm
          exact thN (Wk_J hL ⟨[(1, []), (2, []), (3, []), (10, []), (11, []), (13, []), (14, []), (15, []), (16, [])], [(16, 80, [])], [], 48⟩ (by kernel_rfl))
      have hm := hk
      obtain ⟨r2, h3, hm⟩ := obind hm
      have h3 : i_one e = some r2 := by rw [← hf_weight] at h3; exact h3
      refine X_reg ty_ok Γok hL [(3, .c (i_one_r r2) (i_one_n r2) (i_one_o e r2))] (.cons (i_one_c h3) .nil) (by kernel_rfl) ?_
      refine ibN ?_
      refine thN ?_
      refine X_reg ty_ok Γok hL [] .nil (by kernel_rfl) ?_
      obtain rfl := some_inj hm
      exact thN ⟨_, rfl, Wk_J hL ⟨[(1, []), (2, []), (3, []), (10, []), (11, []), (14, []), (15, []), (16, [])], [], [], 32⟩ (by kernel_rfl)⟩
    · have hm := ie hc hm
      obtain rfl := some_inj hm
      obtain rfl := hb _ rfl
      refine Ok_exit ?_
      refine thE ?_
      refine thE ?_
      refine ibE ?_
      exact thN (Wk_J hL ⟨[(3, []), (10, []), (11, [])], [], [], 32⟩ (by kernel_rfl))
  obtain ⟨v4, v5⟩ := vv
  intro s hw
  have hm := hk1
  refine thN ?_
  refine Ok_weak hw ?_
  refine X_reg_seq ty_ok Γok hL [] .nil (by kernel_rfl) ?_
  obtain rfl := some_inj hm
  refine Ok_ret ?_
  repeat (first | refine thR ?_ | refine ibR ?_)
  exact X_fin [] [] (by kernel_rfl) trivial
abbrev cmp_Compare_int_r (y : Int) : AV := .dat (Enc.e y)
abbrev cmp_Compare_int_n (y : Int) : List Obj' := []
abbrev cmp_Compare_int_o (x : Int × Int) (y : Int) : List Obj' := []
noncomputable def cmp_Compare_int_S : FnSpec := modS [.rd, .rd] (fun x : Int × Int => [Enc.e x.1, Enc.e x.2]) (fun x : Int × Int => []) (fun x : Int × Int => cmp_Compare_int x.1 x.2) cmp_Compare_int_r cmp_Compare_int_n cmp_Compare_int_o
theorem cmp_Compare_int_c {x : Int} {y_ : Int} {y : Int} (h : cmp_Compare_int x y_ = some y) : CallOK cmp_Compare_int_S [Enc.e x, Enc.e y_] [] (cmp_Compare_int_r y) (cmp_Compare_int_n y) (cmp_Compare_int_o (x, y_) y) :=
  modS_call (by
    rintro ⟨a0, a1⟩ ⟨b0, b1⟩ h hO
    have q0 : a0 = b0 := Enc.inj _ _ (congrArg (fun l => List.getD l 0 (.sc undef)) h)
    have q1 : a1 = b1 := Enc.inj _ _ (congrArg (fun l => List.getD l 1 (.sc undef)) h)
    subst q0; subst q1; rfl) (x := (x, y_)) h
theorem cmp_Compare_int_ok : FnOK Try.prog 178 cmp_Compare_int_S := by
  have Γok : ∀ f S, lookF f [(231, cmp_isNaN_int_S)] = some S → FnOK Try.prog f S := lookF_ok (allF_cons cmp_isNaN_int_ok allF_nil)
  have Γlive : Live (fun f => lookF f [(231, cmp_isNaN_int_S)]) := lookF_live (allL_cons modS_live allL_nil)
  refine fnOK_mod ty_ok (fun args w => Try.call178 args w) Try.func178 rfl [.tmp 4] (by rw [Try.results178]) 20 Try.ntmps178 16 rfl (fun _ => by first | exact Nat.zero_le _ | (simp)) ?_
  rintro ⟨x, y_⟩ y cx hm hL
  have hm : cmp_Compare_int x y_ = some y := hm
  have hL : cx.L = 0 := hL
  unfold cmp_Compare_int at hm
  refine X_reg_seq ty_ok Γok hL [] .nil (by kernel_rfl) ?_
  obtain ⟨r, h, hm⟩ := obind hm
  refine X_reg_seq ty_ok Γok hL [(1, .c (cmp_isNaN_int_r r) (cmp_isNaN_int_n r) (cmp_isNaN_int_o x r))] (.cons (cmp_isNaN_int_c h) .nil) (by kernel_rfl) ?_
  obtain ⟨r1, h1, hm⟩ := obind hm
  refine X_reg_seq ty_ok Γok hL [(1, .c (cmp_isNaN_int_r r1) (cmp_isNaN_int_n r1) (cmp_isNaN_int_o y_ r1))] (.cons (cmp_isNaN_int_c h1) .nil) (by kernel_rfl) ?_
  refine Ok_seq ?_
  refine X_reg_seq ty_ok Γok hL [] .nil (by kernel_rfl) ?_
  refine X_cond r (by kernel_rfl) (fun hc => ?_) (fun hc => ?_)
  · have hm := it hc hm
    refine Ok_seq ?_
    refine X_reg_seq ty_ok Γok hL [] .nil (by kernel_rfl) ?_
    refine X_cond r1 (by kernel_rfl) (fun hc1 => ?_) (fun hc1 => ?_)
    · have hm := it hc1 hm
      refine X_reg_seq ty_ok Γok hL [] .nil (by kernel_rfl) ?_
      obtain rfl := some_inj hm
      refine Ok_ret ?_
      repeat (first | refine thR ?_ | refine ibR ?_)
      exact X_fin [] [] (by kernel_rfl) trivial
    · have hm := ie hc1 hm
      refine X_skip ?_
      refine thN ?_
      refine X_reg_seq ty_ok Γok hL [] .nil (by kernel_rfl) ?_
      obtain rfl := some_inj hm
      refine Ok_ret ?_
      repeat (first | refine thR ?_ | refine ibR ?_)
      exact X_fin [] [] (by kernel_rfl) trivial
  · have hm := ie hc hm
    refine X_skip ?_
    refine thN ?_
    refine Ok_seq ?_
    refine X_reg_seq ty_ok Γok hL [] .nil (by kernel_rfl) ?_
    refine X_cond r1 (by kernel_rfl) (fun hc2 => ?_) (fun hc2 => ?_)
    · have hm := it hc2 hm
      refine X_reg_seq ty_ok Γok hL [] .nil (by kernel_rfl) ?_
      obtain rfl := some_inj hm
      refine Ok_ret ?_
      repeat (first | refine thR ?_ | refine ibR ?_)
      exact X_fin [] [] (by kernel_rfl) trivial
    · have hm := ie hc2 hm
      refine X_skip ?_
      refine thN ?_
      refine Ok_seq ?_
      refine X_reg_seq ty_ok Γok hL [] .nil (by kernel_rfl) ?_
      refine X_cond (decide (x < y_)) (by kernel_rfl) (fun hc3 => ?_) (fun hc3 => ?_)
      · have hm := it hc3 hm
        refine X_reg_seq ty_ok Γok hL [] .nil (by kernel_rfl) ?_
        obtain rfl := some_inj hm
        refine Ok_ret ?_
        repeat (first | refine thR ?_ | refine ibR ?_)
        exact X_fin [] [] (by kernel_rfl) trivial
      · have hm := ie hc3 hm
        refine X_skip ?_
        refine thN ?_
        refine Ok_seq ?_
        refine X_reg_seq ty_ok Γok hL [] .nil (by kernel_rfl) ?_
        refine X_cond (decide (y_ < x)) (by kernel_rfl) (fun hc4 => ?_) (fun hc4 => ?_)
        · have hm := it hc4 hm
          refine X_reg_seq ty_ok Γok hL [] .nil (by kernel_rfl) ?_
          obtain rfl := some_inj hm
          refine Ok_ret ?_
          repeat (first | refine thR ?_ | refine ibR ?_)
          exact X_fin [] [] (by kernel_rfl) trivial
        · have hm := ie hc4 hm
          refine X_skip ?_
          refine thN ?_
          refine X_reg_seq ty_ok Γok hL [] .nil (by kernel_rfl) ?_
          obtain rfl := some_inj hm
          refine Ok_ret ?_
          repeat (first | refine thR ?_ | refine ibR ?_)
          exact X_fin [] [] (by kernel_rfl) trivial
abbrev i_BestBuffer_r (y : Int × Int × Bool) : AV := .tup [.dat (Enc.e y.1), .dat (Enc.e y.2.1), .dat (Enc.e y.2.2)]
abbrev i_BestBuffer_n (y : Int × Int × Bool) : List Obj' := []
abbrev i_BestBuffer_o (x : (List Visit) × Int × Int × Int) (y : Int × Int × Bool) : List Obj' := []
noncomputable def i_BestBuffer_S : FnSpec := modS [.rd, .rd, .rd, .rd] (fun x : (List Visit) × Int × Int × Int => [Enc.e x.1, Enc.e x.2.1, Enc.e x.2.2.1, Enc.e x.2.2.2]) (fun x : (List Visit) × Int × Int × Int => []) (fun x : (List Visit) × Int × Int × Int => i_BestBuffer x.1 x.2.1 x.2.2.1 x.2.2.2) i_BestBuffer_r i_BestBuffer_n i_BestBuffer_o
theorem i_BestBuffer_c {list : List Visit} {early : Int} {late : Int} {limit : Int} {y : Int × Int × Bool} (h : i_BestBuffer list early late limit = some y) : CallOK i_BestBuffer_S [Enc.e list, Enc.e early, Enc.e late, Enc.e limit] [] (i_BestBuffer_r y) (i_BestBuffer_n y) (i_BestBuffer_o (list, early, late, limit) y) :=
  modS_call (by
    rintro ⟨a0, a1, a2, a3⟩ ⟨b0, b1, b2, b3⟩ h hO
    have q0 : a0 = b0 := Enc.inj _ _ (congrArg (fun l => List.getD l 0 (.sc undef)) h)
    have q1 : a1 = b1 := Enc.inj _ _ (congrArg (fun l => List.getD l 1 (.sc undef)) h)
    have q2 : a2 = b2 := Enc.inj _ _ (congrArg (fun l => List.getD l 2 (.sc undef)) h)
    have q3 : a3 = b3 := Enc.inj _ _ (congrArg (fun l => List.getD l 3 (.sc undef)) h)
    subst q0; subst q1; subst q2; subst q3; rfl) (x := (list, early, late, limit)) h
theorem i_BestBuffer_ok : FnOK Try.prog 75 i_BestBuffer_S := by
  have Γok : ∀ f S, lookF f [(175, i_areVisits_S), (94, i_within_S), (169, i_shiftVisits_S), (176, i_shareOf__i_one_S), (178, cmp_Compare_int_S)] = some S → FnOK Try.prog f S := lookF_ok (allF_cons i_areVisits_ok (allF_cons i_within_ok (allF_cons i_shiftVisits_ok (allF_cons i_shareOf__i_one_ok (allF_cons cmp_Compare_int_ok allF_nil)))))
  have Γlive : Live (fun f => lookF f [(175, i_areVisits_S), (94, i_within_S), (169, i_shiftVisits_S), (176, i_shareOf__i_one_S), (178, cmp_Compare_int_S)]) := lookF_live (allL_cons modS_live (allL_cons modS_live (allL_cons modS_live (allL_cons modS_live (allL_cons modS_live allL_nil)))))
  refine fnOK_mod ty_ok (fun args w => Try.call75 args w) Try.func75 rfl [.tmp 8, .tmp 9, .tmp 10] (by rw [Try.results75]) 57 Try.ntmps75 16 rfl (fun _ => by first | exact Nat.zero_le _ | (simp)) ?_
  rintro ⟨list, early, late, limit⟩ y cx hm hL
  have hm : i_BestBuffer list early late limit = some y := hm
  have hL : cx.L = 0 := hL
  unfold i_BestBuffer at hm
  refine X_reg_seq ty_ok Γok hL [] .nil (by kernel_rfl) ?_
  refine Ok_seq ?_
  obtain ⟨r, h, hm⟩ := obind hm
  obtain ⟨v, hv, hk⟩ := obind hm
  refine X_join (n := 57) (fun (v : Bool) => (⟨[(0, .dat (Enc.e list)), (1, .dat (.sc (.int .i64 early))), (2, .dat (.sc (.int .i64 late))), (3, .dat (.sc (.int .i64 limit))), (27, .dat (.sc (.bool v)))], [], 32⟩ : X)) v ?_ ?_
  · have hm := hv
    rcases btf (!r) with hb | hb
    · have hm := it hb hm
      obtain rfl := some_inj hm
      refine X_reg ty_ok Γok hL [(3, .c (i_areVisits_r r) (i_areVisits_n r) (i_areVisits_o (list, early, late) r)), (5, .b true)] (.cons (i_areVisits_c h) (.cons hb .nil)) (by kernel_rfl) ?_
      exact thN (Wk_J hL ⟨[(0, []), (1, []), (2, []), (3, []), (27, [])], [], [], 32⟩ (by kernel_rfl))
    · have hm := ie hb hm
      obtain ⟨r1, h1, hm⟩ := obind hm
      obtain rfl := some_inj hm
      refine X_reg ty_ok Γok hL [(3, .c (i_areVisits_r r) (i_areVisits_n r) (i_areVisits_o (list, early, late) r)), (5, .b false), (7, .c (i_within_r r1) (i_within_n r1) (i_within_o (limit, 0, 60) r1))] (.cons (i_areVisits_c h) (.cons hb (.cons (i_within_c h1) .nil))) (by kernel_rfl) ?_
      exact thN (Wk_J hL ⟨[(0, []), (1, []), (2, []), (3, []), (27, [])], [], [], 32⟩ (by kernel_rfl))
  have hm := hk
  refine X_cond v (by kernel_rfl) (fun hc => ?_) (fun hc => ?_)
  · have hm := it hc hm
    refine X_reg_seq ty_ok Γok hL [] .nil (by kernel_rfl) ?_
    obtain rfl := some_inj hm
    refine Ok_ret ?_
    repeat (first | refine thR ?_ | refine ibR ?_)
    exact X_fin [] [] (by kernel_rfl) trivial
  · have hm := ie hc hm
    refine X_skip ?_
    refine thN ?_
    refine X_reg_seq ty_ok Γok hL [] .nil (by kernel_rfl) ?_
    refine Ok_seq ?_
    refine X_reg_seq ty_ok Γok hL [] .nil (by kernel_rfl) ?_
    obtain ⟨vv1, hv2, hk2⟩ := obind hm
    refine X_tail (n := 57) (fun ((ok2, n2) : Int × Int) => (⟨[(11, .dat (.sc (.int .i64 ok2))), (12, .dat (.sc (.int .i64 n2)))], [], 32⟩ : X)) vv1 ?_ ?_
    · have hm := hv2
      refine Ok_block ?_
      refine X_loop (n := 57) (step := i_BestBuffer_L1 list early late limit) (fun ((ok, n, v1) : Int × Int × Int) => (⟨[(0, .dat (Enc.e list)), (1, .dat (.sc (.int .i64 early))), (2, .dat (.sc (.int .i64 late))), (11, .dat (.sc (.int .i64 ok))), (12, .dat (.sc (.int .i64 n))), (29, .dat (.sc (.int .i64 (w64 (limit + 1))))), (30, .dat (.sc (.int .i64 v1)))], [], 32⟩ : X)) hm (Wk_J hL ⟨[(0, []), (1, []), (2, []), (11, []), (12, []), (29, []), (30, [])], [], [], 32⟩ (by kernel_rfl)) ?_
      rintro ⟨ok, n, v1⟩ r0 hm hb1
      rw [i_BestBuffer_L1] at hm
      refine X_reg_seq ty_ok Γok hL [] .nil (by kernel_rfl) ?_
      refine Ok_seq ?_
      refine X_cond (decide (v1 < (w64 (limit + 1)))) (by kernel_rfl) (fun hc1 => ?_) (fun hc1 => ?_)
      · have hm := it hc1 hm
        refine X_skip ?_
        refine thN ?_
        obtain ⟨vv, hv1, hk1⟩ := obind hm
        refine X_join (n := 57) (fun ((ok1, n1) : Int × Int) => (⟨[(0, .dat (Enc.e list)), (1, .dat (.sc (.int .i64 early))), (2, .dat (.sc (.int .i64 late))), (11, .dat (.sc (.int .i64 ok1))), (12, .dat (.sc (.int .i64 n1))), (29, .dat (.sc (.int .i64 (w64 (limit + 1))))), (30, .dat (.sc (.int .i64 v1)))], [], 32⟩ : X)) vv ?_ ?_
        · have hm := hv1
          refine Ok_block ?_
          refine X_reg_seq ty_ok Γok hL [] .nil (by kernel_rfl) ?_
          obtain ⟨r2, h2, hm⟩ := obind hm
          refine X_reg_seq ty_ok Γok hL [(2, .c (i_shiftVisits_r r2) (i_shiftVisits_n r2) (i_shiftVisits_o (list, v1) r2))] (.cons (i_shiftVisits_c h2) .nil) (by kernel_rfl) ?_
          refine Ok_seq ?_
          refine X_reg_seq ty_ok Γok hL [] .nil (by kernel_rfl) ?_
          refine X_cond (!r2.2) (by kernel_rfl) (fun hc2 => ?_) (fun hc2 => ?_)
          · have hm := it hc2 hm
            refine Ok_exit ?_
            refine thE ?_
            refine ibE ?_
            obtain rfl := some_inj hm
            exact thN (Wk_J hL ⟨[(0, []), (1, []), (2, []), (11, []), (12, []), (29, []), (30, [])], [], [], 32⟩ (by kernel_rfl))
          · have hm := ie hc2 hm
            refine X_skip ?_
            refine thN ?_
            obtain ⟨r3, h3, hm⟩ := obind hm
            refine X_reg_seq ty_ok Γok hL [(3, .c (i_shareOf__i_one_r r3) (i_shareOf__i_one_n r3) (i_shareOf__i_one_o (r2.1, early, late) r3))] (.cons (i_shareOf__i_one_c h3) .nil) (by kernel_rfl) ?_
            obtain ⟨r4, h4, hm⟩ := obind hm
            refine X_reg_seq ty_ok Γok hL [(2, .c (cmp_Compare_int_r r4) (cmp_Compare_int_n r4) (cmp_Compare_int_o (r3.1, n) r4))] (.cons (cmp_Compare_int_c h4) .nil) (by kernel_rfl) ?_
            refine X_cond (decide (0 < r4)) (by kernel_rfl) (fun hc3 => ?_) (fun hc3 => ?_)
            · have hm := it hc3 hm
              refine X_reg ty_ok Γok hL [] .nil (by kernel_rfl) ?_
              refine ibN ?_
              obtain rfl := some_inj hm
              exact thN (Wk_J hL ⟨[(0, []), (1, []), (2, []), (11, []), (12, []), (29, []), (30, [])], [], [], 32⟩ (by kernel_rfl))
            · have hm := ie hc3 hm
              refine X_skip ?_
              refine ibN ?_
              obtain rfl := some_inj hm
              exact thN (Wk_J hL ⟨[(0, []), (1, []), (2, []), (11, []), (12, []), (29, []), (30, [])], [], [], 32⟩ (by kernel_rfl))
        obtain ⟨ok1, n1⟩ := vv
        have hm := hk1
        refine X_reg ty_ok Γok hL [] .nil (by kernel_rfl) ?_
        obtain rfl := some_inj hm
        exact thN ⟨_, rfl, Wk_J hL ⟨[(0, []), (1, []), (2, []), (11, []), (12, []), (29, []), (30, [])], [], [], 32⟩ (by kernel_rfl)⟩
      · have hm := ie hc1 hm
        obtain rfl := some_inj hm
        obtain rfl := hb1 _ rfl
        refine Ok_exit ?_
        refine thE ?_
        refine thE ?_
        refine ibE ?_
        exact thN (Wk_J hL ⟨[(11, []), (12, [])], [], [], 32⟩ (by kernel_rfl))
    obtain ⟨ok2, n2⟩ := vv1
    intro s hw
    have hm := hk2
    refine thN ?_
    refine Ok_weak hw ?_
    refine X_reg_seq ty_ok Γok hL [] .nil (by kernel_rfl) ?_
    obtain rfl := some_inj hm
    refine Ok_ret ?_
    repeat (first | refine thR ?_ | refine ibR ?_)
    exact X_fin [] [] (by kernel_rfl) trivial
abbrev s_l22Limits_r (y : Bool) : AV := .dat (Enc.e y)
abbrev s_l22Limits_n (y : Bool) : List Obj' := []
abbrev s_l22Limits_o (x : Int × Int) (y : Bool) : List Obj' := []
noncomputable def s_l22Limits_S : FnSpec := modS [.rd, .rd] (fun x : Int × Int => [Enc.e x.1, Enc.e x.2]) (fun x : Int × Int => []) (fun x : Int × Int => s_l22Limits x.1 x.2) s_l22Limits_r s_l22Limits_n s_l22Limits_o
theorem s_l22Limits_c {early : Int} {late : Int} {y : Bool} (h : s_l22Limits early late = some y) : CallOK s_l22Limits_S [Enc.e early, Enc.e late] [] (s_l22Limits_r y) (s_l22Limits_n y) (s_l22Limits_o (early, late) y) :=
  modS_call (by
    rintro ⟨a0, a1⟩ ⟨b0, b1⟩ h hO
    have q0 : a0 = b0 := Enc.inj _ _ (congrArg (fun l => List.getD l 0 (.sc undef)) h)
    have q1 : a1 = b1 := Enc.inj _ _ (congrArg (fun l => List.getD l 1 (.sc undef)) h)
    subst q0; subst q1; rfl) (x := (early, late)) h
theorem s_l22Limits_ok : FnOK Try.prog 179 s_l22Limits_S := by
  have Γok : ∀ f S, lookF f [(88, s_l1In_S)] = some S → FnOK Try.prog f S := lookF_ok (allF_cons s_l1In_ok allF_nil)
  have Γlive : Live (fun f => lookF f [(88, s_l1In_S)]) := lookF_live (allL_cons modS_live allL_nil)
  refine fnOK_mod ty_ok (fun args w => Try.call179 args w) Try.func179 rfl [.tmp 4] (by rw [Try.results179]) 11 Try.ntmps179 16 rfl (fun _ => by first | exact Nat.zero_le _ | (simp)) ?_
  rintro ⟨early, late⟩ y cx hm hL
  have hm : s_l22Limits early late = some y := hm
  have hL : cx.L = 0 := hL
  unfold s_l22Limits at hm
  refine X_reg_seq ty_ok Γok hL [] .nil (by kernel_rfl) ?_
  obtain ⟨r, h, hm⟩ := obind hm
  obtain ⟨v, hv, hk⟩ := obind hm
  refine X_join (n := 11) (fun (v : Bool) => (⟨[(4, .dat (.sc (.bool v)))], [], 32⟩ : X)) v ?_ ?_
  · have hm := hv
    rcases btf r with hb | hb
    · have hm := it hb hm
      obtain ⟨r1, h1, hm⟩ := obind hm
      obtain rfl := some_inj hm
      refine X_reg ty_ok Γok hL [(1, .c (s_l1In_r r) (s_l1In_n r) (s_l1In_o (early, 0, 600) r)), (2, .b true), (4, .c (s_l1In_r r1) (s_l1In_n r1) (s_l1In_o (late, 0, 600) r1))] (.cons (s_l1In_c h) (.cons hb (.cons (s_l1In_c h1) .nil))) (by kernel_rfl) ?_
      exact thN (Wk_J hL ⟨[(4, [])], [], [], 32⟩ (by kernel_rfl))
    · have hm := ie hb hm
      obtain rfl := some_inj hm
      refine X_reg ty_ok Γok hL [(1, .c (s_l1In_r r) (s_l1In_n r) (s_l1In_o (early, 0, 600) r)), (2, .b false)] (.cons (s_l1In_c h) (.cons hb .nil)) (by kernel_rfl) ?_
      exact thN (Wk_J hL ⟨[(4, [])], [], [], 32⟩ (by kernel_rfl))
  have hm := hk
  obtain rfl := some_inj hm
  refine Ok_ret ?_
  repeat (first | refine thR ?_ | refine ibR ?_)
  exact X_fin [] [] (by kernel_rfl) trivial
abbrev s_l22Punctual_r (y : Bool) : AV := .dat (Enc.e y)
abbrev s_l22Punctual_n (y : Bool) : List Obj' := []
abbrev s_l22Punctual_o (x : Visit × Int × Int) (y : Bool) : List Obj' := []
noncomputable def s_l22Punctual_S : FnSpec := modS [.rd, .rd, .rd] (fun x : Visit × Int × Int => [Enc.e x.1, Enc.e x.2.1, Enc.e x.2.2]) (fun x : Visit × Int × Int => []) (fun x : Visit × Int × Int => s_l22Punctual x.1 x.2.1 x.2.2) s_l22Punctual_r s_l22Punctual_n s_l22Punctual_o
theorem s_l22Punctual_c {x : Visit} {early : Int} {late : Int} {y : Bool} (h : s_l22Punctual x early late = some y) : CallOK s_l22Punctual_S [Enc.e x, Enc.e early, Enc.e late] [] (s_l22Punctual_r y) (s_l22Punctual_n y) (s_l22Punctual_o (x, early, late) y) :=
  modS_call (by
    rintro ⟨a0, a1, a2⟩ ⟨b0, b1, b2⟩ h hO
    have q0 : a0 = b0 := Enc.inj _ _ (congrArg (fun l => List.getD l 0 (.sc undef)) h)
    have q1 : a1 = b1 := Enc.inj _ _ (congrArg (fun l => List.getD l 1 (.sc undef)) h)
    have q2 : a2 = b2 := Enc.inj _ _ (congrArg (fun l => List.getD l 2 (.sc undef)) h)
    subst q0; subst q1; subst q2; rfl) (x := (x, early, late)) h
theorem s_l22Punctual_ok : FnOK Try.prog 232 s_l22Punctual_S := by
  have Γok : ∀ f S, lookF f [(88, s_l1In_S)] = some S → FnOK Try.prog f S := lookF_ok (allF_cons s_l1In_ok allF_nil)
  have Γlive : Live (fun f => lookF f [(88, s_l1In_S)]) := lookF_live (allL_cons modS_live allL_nil)
  refine fnOK_mod ty_ok (fun args w => Try.call232 args w) Try.func232 rfl [.tmp 6] (by rw [Try.results232]) 16 Try.ntmps232 16 rfl (fun _ => by first | exact Nat.zero_le _ | (simp)) ?_
  rintro ⟨x, early, late⟩ y cx hm hL
  have hm : s_l22Punctual x early late = some y := hm
  have hL : cx.L = 0 := hL
  unfold s_l22Punctual at hm
  refine X_reg_seq ty_ok Γok hL [] .nil (by kernel_rfl) ?_
  obtain ⟨r, h, hm⟩ := obind hm
  refine X_reg_seq ty_ok Γok hL [(8, .c (s_l1In_r r) (s_l1In_n r) (s_l1In_o ((w64 (x.Actual - x.Planned)), (w64 (0 - early)), late) r))] (.cons (s_l1In_c h) .nil) (by kernel_rfl) ?_
  obtain rfl := some_inj hm
  refine Ok_ret ?_
  repeat (first | refine thR ?_ | refine ibR ?_)
  exact X_fin [] [] (by kernel_rfl) trivial
abbrev s_l22Count_r (y : Int) : AV := .dat (Enc.e y)
abbrev s_l22Count_n (y : Int) : List Obj' := []
abbrev s_l22Count_o (x : (List Visit) × Int × Int) (y : Int) : List Obj' := []
noncomputable def s_l22Count_S : FnSpec := modS [.rd, .rd, .rd] (fun x : (List Visit) × Int × Int => [Enc.e x.1, Enc.e x.2.1, Enc.e x.2.2]) (fun x : (List Visit) × Int × Int => []) (fun x : (List Visit) × Int × Int => s_l22Count x.1 x.2.1 x.2.2) s_l22Count_r s_l22Count_n s_l22Count_o
theorem s_l22Count_c {list : List Visit} {early : Int} {late : Int} {y : Int} (h : s_l22Count list early late = some y) : CallOK s_l22Count_S [Enc.e list, Enc.e early, Enc.e late] [] (s_l22Count_r y) (s_l22Count_n y) (s_l22Count_o (list, early, late) y) :=
  modS_call (by
    rintro ⟨a0, a1, a2⟩ ⟨b0, b1, b2⟩ h hO
    have q0 : a0 = b0 := Enc.inj _ _ (congrArg (fun l => List.getD l 0 (.sc undef)) h)
    have q1 : a1 = b1 := Enc.inj _ _ (congrArg (fun l => List.getD l 1 (.sc undef)) h)
    have q2 : a2 = b2 := Enc.inj _ _ (congrArg (fun l => List.getD l 2 (.sc undef)) h)
    subst q0; subst q1; subst q2; rfl) (x := (list, early, late)) h
theorem s_l22Count_ok : FnOK Try.prog 180 s_l22Count_S := by
  have Γok : ∀ f S, lookF f [(232, s_l22Punctual_S)] = some S → FnOK Try.prog f S := lookF_ok (allF_cons s_l22Punctual_ok allF_nil)
  have Γlive : Live (fun f => lookF f [(232, s_l22Punctual_S)]) := lookF_live (allL_cons modS_live allL_nil)
  refine fnOK_mod ty_ok (fun args w => Try.call180 args w) Try.func180 rfl [.tmp 6] (by rw [Try.results180]) 25 Try.ntmps180 16 rfl (fun _ => by first | exact Nat.zero_le _ | (simp)) ?_
  rintro ⟨list, early, late⟩ y cx hm hL
  have hm : s_l22Count list early late = some y := hm
  have hL : cx.L = 0 := hL
  unfold s_l22Count at hm
  refine X_reg_seq ty_ok Γok hL [] .nil (by kernel_rfl) ?_
  refine X_reg_seq ty_ok Γok hL [] .nil (by kernel_rfl) ?_
  refine Ok_seq ?_
  refine X_reg_seq ty_ok Γok hL [] .nil (by kernel_rfl) ?_
  obtain ⟨v3, hv1, hk1⟩ := obind hm
  refine X_tail (n := 25) (fun (v3 : Int) => (⟨[(7, .dat (.sc (.int .i64 v3)))], [], 32⟩ : X)) v3 ?_ ?_
  · have hm := hv1
    refine Ok_block ?_
    refine X_loop (n := 25) (step := s_l22Count_L1 list early late) (fun ((v, v1) : Int × Int) => (⟨[(0, .dat (Enc.e list)), (1, .dat (.sc (.int .i64 early))), (2, .dat (.sc (.int .i64 late))), (7, .dat (.sc (.int .i64 v))), (8, .dat (.sc (.int .i64 v1)))], [], 32⟩ : X)) hm (Wk_J hL ⟨[(0, []), (1, []), (2, []), (7, []), (8, [])], [], [], 32⟩ (by kernel_rfl)) ?_
    rintro ⟨v, v1⟩ r0 hm hb
    rw [s_l22Count_L1] at hm
    refine Ok_seq ?_
    refine X_reg_seq ty_ok Γok hL [(2, .n (list.length : Int))] (.cons (len_m Enc.e list) .nil) (by kernel_rfl) ?_
    refine X_cond (decide (v1 < (list.length : Int))) (by kernel_rfl) (fun hc => ?_) (fun hc => ?_)
    · have hm := it hc hm
      refine X_skip ?_
      refine thN ?_
      obtain ⟨v2, hv, hk⟩ := obind hm
      refine X_join (n := 25) (fun (v2 : Int) => (⟨[(0, .dat (Enc.e list)), (1, .dat (.sc (.int .i64 early))), (2, .dat (.sc (.int .i64 late))), (7, .dat (.sc (.int .i64 v2))), (8, .dat (.sc (.int .i64 v1)))], [], 32⟩ : X)) v2 ?_ ?_
      · have hm := hv
        refine Ok_block ?_
        obtain ⟨e, h, hm⟩ := obind hm
        obtain ⟨r, h1, hm⟩ := obind hm
        refine X_reg_seq ty_ok Γok hL [(2, .d (Enc.e e)), (6, .c (s_l22Punctual_r r) (s_l22Punctual_n r) (s_l22Punctual_o (e, early, late) r))] (.cons (idx_m (f := Enc.e) h) (.cons (s_l22Punctual_c h1) .nil)) (by kernel_rfl) ?_
        refine X_cond r (by kernel_rfl) (fun hc1 => ?_) (fun hc1 => ?_)
        · have hm := it hc1 hm
          refine X_reg ty_ok Γok hL [] .nil (by kernel_rfl) ?_
          refine ibN ?_
          obtain rfl := some_inj hm
          exact thN (Wk_J hL ⟨[(0, []), (1, []), (2, []), (7, []), (8, [])], [], [], 32⟩ (by kernel_rfl))
        · have hm := ie hc1 hm
          refine X_skip ?_
          refine ibN ?_
          obtain rfl := some_inj hm
          exact thN (Wk_J hL ⟨[(0, []), (1, []), (2, []), (7, []), (8, [])], [], [], 32⟩ (by kernel_rfl))
      have hm := hk
      refine X_reg ty_ok Γok hL [] .nil (by kernel_rfl) ?_
      obtain rfl := some_inj hm
      exact thN ⟨_, rfl, Wk_J hL ⟨[(0, []), (1, []), (2, []), (7, []), (8, [])], [], [], 32⟩ (by kernel_rfl)⟩
    · have hm := ie hc hm
      obtain rfl := some_inj hm
      obtain rfl := hb _ rfl
      refine Ok_exit ?_
      refine thE ?_
      refine thE ?_
      refine ibE ?_
      exact thN (Wk_J hL ⟨[(7, [])], [], [], 32⟩ (by kernel_rfl))
  intro s hw
  have hm := hk1
  refine thN ?_
  refine Ok_weak hw ?_
  refine X_reg_seq ty_ok Γok hL [] .nil (by kernel_rfl) ?_
  obtain rfl := some_inj hm
  refine Ok_ret ?_
  repeat (first | refine thR ?_ | refine ibR ?_)
  exact X_fin [] [] (by kernel_rfl) trivial
abbrev s_BestBuffer_r (y : Int × Int × Bool) : AV := .tup [.dat (Enc.e y.1), .dat (Enc.e y.2.1), .dat (Enc.e y.2.2)]
abbrev s_BestBuffer_n (y : Int × Int × Bool) : List Obj' := []
abbrev s_BestBuffer_o (x : (List Visit) × Int × Int × Int) (y : Int × Int × Bool) : List Obj' := []
noncomputable def s_BestBuffer_S : FnSpec := modS [.rd, .rd, .rd, .rd] (fun x : (List Visit) × Int × Int × Int => [Enc.e x.1, Enc.e x.2.1, Enc.e x.2.2.1, Enc.e x.2.2.2]) (fun x : (List Visit) × Int × Int × Int => []) (fun x : (List Visit) × Int × Int × Int => s_BestBuffer x.1 x.2.1 x.2.2.1 x.2.2.2) s_BestBuffer_r s_BestBuffer_n s_BestBuffer_o
theorem s_BestBuffer_c {list : List Visit} {early : Int} {late : Int} {limit : Int} {y : Int × Int × Bool} (h : s_BestBuffer list early late limit = some y) : CallOK s_BestBuffer_S [Enc.e list, Enc.e early, Enc.e late, Enc.e limit] [] (s_BestBuffer_r y) (s_BestBuffer_n y) (s_BestBuffer_o (list, early, late, limit) y) :=
  modS_call (by
    rintro ⟨a0, a1, a2, a3⟩ ⟨b0, b1, b2, b3⟩ h hO
    have q0 : a0 = b0 := Enc.inj _ _ (congrArg (fun l => List.getD l 0 (.sc undef)) h)
    have q1 : a1 = b1 := Enc.inj _ _ (congrArg (fun l => List.getD l 1 (.sc undef)) h)
    have q2 : a2 = b2 := Enc.inj _ _ (congrArg (fun l => List.getD l 2 (.sc undef)) h)
    have q3 : a3 = b3 := Enc.inj _ _ (congrArg (fun l => List.getD l 3 (.sc undef)) h)
    subst q0; subst q1; subst q2; subst q3; rfl) (x := (list, early, late, limit)) h
theorem s_BestBuffer_ok : FnOK Try.prog 76 s_BestBuffer_S := by
  have Γok : ∀ f S, lookF f [(170, s_l22Good_S), (179, s_l22Limits_S), (88, s_l1In_S), (171, s_l22Shift_S), (180, s_l22Count_S)] = some S → FnOK Try.prog f S := lookF_ok (allF_cons s_l22Good_ok (allF_cons s_l22Limits_ok (allF_cons s_l1In_ok (allF_cons s_l22Shift_ok (allF_cons s_l22Count_ok allF_nil)))))
  have Γlive : Live (fun f => lookF f [(170, s_l22Good_S), (179, s_l22Limits_S), (88, s_l1In_S), (171, s_l22Shift_S), (180, s_l22Count_S)]) := lookF_live (allL_cons modS_live (allL_cons modS_live (allL_cons modS_live (allL_cons modS_live (allL_cons modS_live allL_nil)))))
  refine fnOK_mod ty_ok (fun args w => Try.call76 args w) Try.func76 rfl [.tmp 8, .tmp 9, .tmp 10] (by rw [Try.results76]) 53 Try.ntmps76 16 rfl (fun _ => by first | exact Nat.zero_le _ | (simp)) ?_
  rintro ⟨list, early, late, limit⟩ y cx hm hL
  have hm : s_BestBuffer list early late limit = some y := hm
  have hL : cx.L = 0 := hL
  unfold s_BestBuffer at hm
  refine X_reg_seq ty_ok Γok hL [] .nil (by kernel_rfl) ?_
  refine Ok_seq ?_
  obtain ⟨r, h, hm⟩ := obind hm
  obtain ⟨v, hv, hk⟩ := obind hm
  refine X_join (n := 53) (fun (v : Bool) => (⟨[(0, .dat (Enc.e list)), (1, .dat (.sc (.int .i64 early))), (2, .dat (.sc (.int .i64 late))), (3, .dat (.sc (.int .i64 limit))), (29, .dat (.sc (.bool v)))], [], 32⟩ : X)) v ?_ ?_
  · have hm := hv
    rcases btf (!r) with hb | hb
    · have hm := it hb hm
      obtain rfl := some_inj hm
      refine X_reg ty_ok Γok hL [(1, .c (s_l22Good_r r) (s_l22Good_n r) (s_l22Good_o list r)), (3, .b true)] (.cons (s_l22Good_c h) (.cons hb .nil)) (by kernel_rfl) ?_
      exact thN (Wk_J hL ⟨[(0, []), (1, []), (2, []), (3, []), (29, [])], [], [], 32⟩ (by kernel_rfl))
    · have hm := ie hb hm
      obtain ⟨r1, h1, hm⟩ := obind hm
      rcases btf (!r1) with hb1 | hb1
      · have hm := it hb1 hm
        obtain rfl := some_inj hm
        refine X_reg ty_ok Γok hL [(1, .c (s_l22Good_r r) (s_l22Good_n r) (s_l22Good_o list r)), (3, .b false), (6, .c (s_l22Limits_r r1) (s_l22Limits_n r1) (s_l22Limits_o (early, late) r1)), (9, .b true)] (.cons (s_l22Good_c h) (.cons hb (.cons (s_l22Limits_c h1) (.cons hb1 .nil)))) (by kernel_rfl) ?_
        exact thN (Wk_J hL ⟨[(0, []), (1, []), (2, []), (3, []), (29, [])], [], [], 32⟩ (by kernel_rfl))
      · have hm := ie hb1 hm
        obtain ⟨r2, h2, hm⟩ := obind hm
        obtain rfl := some_inj hm
        refine X_reg ty_ok Γok hL [(1, .c (s_l22Good_r r) (s_l22Good_n r) (s_l22Good_o list r)), (3, .b false), (6, .c (s_l22Limits_r r1) (s_l22Limits_n r1) (s_l22Limits_o (early, late) r1)), (9, .b false), (11, .c (s_l1In_r r2) (s_l1In_n r2) (s_l1In_o (limit, 0, 60) r2))] (.cons (s_l22Good_c h) (.cons hb (.cons (s_l22Limits_c h1) (.cons hb1 (.cons (s_l1In_c h2) .nil))))) (by kernel_rfl) ?_
        exact thN (Wk_J hL ⟨[(0, []), (1, []), (2, []), (3, []), (29, [])], [], [], 32⟩ (by kernel_rfl))
  have hm := hk
  refine X_cond v (by kernel_rfl) (fun hc => ?_) (fun hc => ?_)
  · have hm := it hc hm
    refine X_reg_seq ty_ok Γok hL [] .nil (by kernel_rfl) ?_
    obtain rfl := some_inj hm
    refine Ok_ret ?_
    repeat (first | refine thR ?_ | refine ibR ?_)
    exact X_fin [] [] (by kernel_rfl) trivial
  · have hm := ie hc hm
    refine X_skip ?_
    refine thN ?_
    refine X_reg_seq ty_ok Γok hL [] .nil (by kernel_rfl) ?_
    refine Ok_seq ?_
    refine X_reg_seq ty_ok Γok hL [] .nil (by kernel_rfl) ?_
    obtain ⟨vv1, hv3, hk3⟩ := obind hm
    refine X_tail (n := 53) (fun ((n2, v5) : Int × Int) => (⟨[(11, .dat (.sc (.int .i64 n2))), (12, .dat (.sc (.int .i64 v5)))], [], 32⟩ : X)) vv1 ?_ ?_
    · have hm := hv3
      refine Ok_block ?_
      refine X_loop (n := 53) (step := s_BestBuffer_L1 list early late limit) (fun ((n, v1, v2) : Int × Int × Int) => (⟨[(0, .dat (Enc.e list)), (1, .dat (.sc (.int .i64 early))), (2, .dat (.sc (.int .i64 late))), (3, .dat (.sc (.int .i64 limit))), (11, .dat (.sc (.int .i64 n))), (12, .dat (.sc (.int .i64 v1))), (13, .dat (.sc (.int .i64 v2)))], [], 32⟩ : X)) hm (Wk_J hL ⟨[(0, []), (1, []), (2, []), (3, []), (11, []), (12, []), (13, [])], [], [], 32⟩ (by kernel_rfl)) ?_
      rintro ⟨n, v1, v2⟩ r0 hm hb2
      rw [s_BestBuffer_L1] at hm
      refine Ok_seq ?_
      refine X_reg_seq ty_ok Γok hL [] .nil (by kernel_rfl) ?_
      refine X_cond (decide (v2 ≤ limit)) (by kernel_rfl) (fun hc1 => ?_) (fun hc1 => ?_)
      · have hm := it hc1 hm
        refine X_skip ?_
        refine thN ?_
        obtain ⟨vv, hv1, hk1⟩ := obind hm
        refine X_join (n := 53) (fun ((n1, v3) : Int × Int) => (⟨[(0, .dat (Enc.e list)), (1, .dat (.sc (.int .i64 early))), (2, .dat (.sc (.int .i64 late))), (3, .dat (.sc (.int .i64 limit))), (11, .dat (.sc (.int .i64 n1))), (12, .dat (.sc (.int .i64 v3))), (13, .dat (.sc (.int .i64 v2)))], [], 32⟩ : X)) vv ?_ ?_
        · have hm := hv1
          refine Ok_block ?_
          obtain ⟨r3, h3, hm⟩ := obind hm
          refine X_reg_seq ty_ok Γok hL [(2, .c (s_l22Shift_r r3) (s_l22Shift_n r3) (s_l22Shift_o (list, v2) r3))] (.cons (s_l22Shift_c h3) .nil) (by kernel_rfl) ?_
          obtain ⟨r4, h4, hm⟩ := obind hm
          refine X_reg_seq ty_ok Γok hL [(3, .c (s_l22Count_r r4) (s_l22Count_n r4) (s_l22Count_o (r3, early, late) r4))] (.cons (s_l22Count_c h4) .nil) (by kernel_rfl) ?_
          obtain ⟨r5, h5, hm⟩ := obind hm
          obtain ⟨v4, hv2, hk2⟩ := obind hm
          refine X_join (n := 53) (fun (v4 : Bool) => (⟨[(0, .dat (Enc.e list)), (1, .dat (.sc (.int .i64 early))), (2, .dat (.sc (.int .i64 late))), (3, .dat (.sc (.int .i64 limit))), (11, .dat (.sc (.int .i64 n))), (12, .dat (.sc (.int .i64 v1))), (13, .dat (.sc (.int .i64 v2))), (15, .dat (.sc (.int .i64 r4))), (48, .dat (.sc (.bool v4)))], [], 32⟩ : X)) v4 ?_ ?_
          · have hm := hv2
            rcases btf r5 with hb3 | hb3
            · have hm := it hb3 hm
              obtain rfl := some_inj hm
              refine X_reg ty_ok Γok hL [(1, .c (s_l22Good_r r5) (s_l22Good_n r5) (s_l22Good_o r3 r5)), (2, .b true)] (.cons (s_l22Good_c h5) (.cons hb3 .nil)) (by kernel_rfl) ?_
              exact thN (Wk_J hL ⟨[(0, []), (1, []), (2, []), (3, []), (11, []), (12, []), (13, []), (15, []), (48, [])], [], [], 32⟩ (by kernel_rfl))
            · have hm := ie hb3 hm
              obtain rfl := some_inj hm
              refine X_reg ty_ok Γok hL [(1, .c (s_l22Good_r r5) (s_l22Good_n r5) (s_l22Good_o r3 r5)), (2, .b false)] (.cons (s_l22Good_c h5) (.cons hb3 .nil)) (by kernel_rfl) ?_
              exact thN (Wk_J hL ⟨[(0, []), (1, []), (2, []), (3, []), (11, []), (12, []), (13, []), (15, []), (48, [])], [], [], 32⟩ (by kernel_rfl))
          have hm := hk2
          refine X_cond v4 (by kernel_rfl) (fun hc2 => ?_) (fun hc2 => ?_)
          · have hm := it hc2 hm
            refine X_reg_seq ty_ok Γok hL [] .nil (by kernel_rfl) ?_
            refine X_reg ty_ok Γok hL [] .nil (by kernel_rfl) ?_
            refine ibN ?_
            obtain rfl := some_inj hm
            exact thN (Wk_J hL ⟨[(0, []), (1, []), (2, []), (3, []), (11, []), (12, []), (13, [])], [], [], 32⟩ (by kernel_rfl))
          · have hm := ie hc2 hm
            refine X_skip ?_
            refine ibN ?_
            obtain rfl := some_inj hm
            exact thN (Wk_J hL ⟨[(0, []), (1, []), (2, []), (3, []), (11, []), (12, []), (13, [])], [], [], 32⟩ (by kernel_rfl))
        obtain ⟨n1, v3⟩ := vv
        have hm := hk1
        refine X_reg ty_ok Γok hL [] .nil (by kernel_rfl) ?_
        obtain rfl := some_inj hm
        exact thN ⟨_, rfl, Wk_J hL ⟨[(0, []), (1, []), (2, []), (3, []), (11, []), (12, []), (13, [])], [], [], 32⟩ (by kernel_rfl)⟩
      · have hm := ie hc1 hm
        obtain rfl := some_inj hm
        obtain rfl := hb2 _ rfl
        refine Ok_exit ?_
        refine thE ?_
        refine thE ?_
        refine ibE ?_
        exact thN (Wk_J hL ⟨[(11, []), (12, [])], [], [], 32⟩ (by kernel_rfl))
    obtain ⟨n2, v5⟩ := vv1
    intro s hw
    have hm := hk3
    refine thN ?_
    refine Ok_weak hw ?_
    refine X_reg_seq ty_ok Γok hL [] .nil (by kernel_rfl) ?_
    obtain rfl := some_inj hm
    refine Ok_ret ?_
    repeat (first | refine thR ?_ | refine ibR ?_)
    exact X_fin [] [] (by kernel_rfl) trivial
abbrev i_PunctualShare_r (y : Int × Int × Bool) : AV := .tup [.dat (Enc.e y.1), .dat (Enc.e y.2.1), .dat (Enc.e y.2.2)]
abbrev i_PunctualShare_n (y : Int × Int × Bool) : List Obj' := []
abbrev i_PunctualShare_o (x : (List Visit) × Int × Int) (y : Int × Int × Bool) : List Obj' := []
noncomputable def i_PunctualShare_S : FnSpec := modS [.rd, .rd, .rd] (fun x : (List Visit) × Int × Int => [Enc.e x.1, Enc.e x.2.1, Enc.e x.2.2]) (fun x : (List Visit) × Int × Int => []) (fun x : (List Visit) × Int × Int => i_PunctualShare x.1 x.2.1 x.2.2) i_PunctualShare_r i_PunctualShare_n i_PunctualShare_o
theorem i_PunctualShare_c {list : List Visit} {early : Int} {late : Int} {y : Int × Int × Bool} (h : i_PunctualShare list early late = some y) : CallOK i_PunctualShare_S [Enc.e list, Enc.e early, Enc.e late] [] (i_PunctualShare_r y) (i_PunctualShare_n y) (i_PunctualShare_o (list, early, late) y) :=
  modS_call (by
    rintro ⟨a0, a1, a2⟩ ⟨b0, b1, b2⟩ h hO
    have q0 : a0 = b0 := Enc.inj _ _ (congrArg (fun l => List.getD l 0 (.sc undef)) h)
    have q1 : a1 = b1 := Enc.inj _ _ (congrArg (fun l => List.getD l 1 (.sc undef)) h)
    have q2 : a2 = b2 := Enc.inj _ _ (congrArg (fun l => List.getD l 2 (.sc undef)) h)
    subst q0; subst q1; subst q2; rfl) (x := (list, early, late)) h
theorem i_PunctualShare_ok : FnOK Try.prog 77 i_PunctualShare_S := by
  have Γok : ∀ f S, lookF f [(175, i_areVisits_S), (176, i_shareOf__i_one_S), (172, i_fraction_S)] = some S → FnOK Try.prog f S := lookF_ok (allF_cons i_areVisits_ok (allF_cons i_shareOf__i_one_ok (allF_cons i_fraction_ok allF_nil)))
  have Γlive : Live (fun f => lookF f [(175, i_areVisits_S), (176, i_shareOf__i_one_S), (172, i_fraction_S)]) := lookF_live (allL_cons modS_live (allL_cons modS_live (allL_cons modS_live allL_nil)))
  refine fnOK_mod ty_ok (fun args w => Try.call77 args w) Try.func77 rfl [.tmp 6, .tmp 7, .tmp 8] (by rw [Try.results77]) 29 Try.ntmps77 16 rfl (fun _ => by first | exact Nat.zero_le _ | (simp)) ?_
  rintro ⟨list, early, late⟩ y cx hm hL
  have hm : i_PunctualShare list early late = some y := hm
  have hL : cx.L = 0 := hL
  unfold i_PunctualShare at hm
  refine X_reg_seq ty_ok Γok hL [] .nil (by kernel_rfl) ?_
  refine Ok_seq ?_
  obtain ⟨r, h, hm⟩ := obind hm
  obtain ⟨v, hv, hk⟩ := obind hm
  refine X_join (n := 29) (fun (v : Bool) => (⟨[(0, .dat (Enc.e list)), (1, .dat (.sc (.int .i64 early))), (2, .dat (.sc (.int .i64 late))), (18, .dat (.sc (.bool v)))], [], 32⟩ : X)) v ?_ ?_
  · have hm := hv
    rcases btf (!r) with hb | hb
    · have hm := it hb hm
      obtain rfl := some_inj hm
      refine X_reg ty_ok Γok hL [(3, .c (i_areVisits_r r) (i_areVisits_n r) (i_areVisits_o (list, early, late) r)), (5, .b true)] (.cons (i_areVisits_c h) (.cons hb .nil)) (by kernel_rfl) ?_
      exact thN (Wk_J hL ⟨[(0, []), (1, []), (2, []), (18, [])], [], [], 32⟩ (by kernel_rfl))
    · have hm := ie hb hm
      obtain rfl := some_inj hm
      refine X_reg ty_ok Γok hL [(3, .c (i_areVisits_r r) (i_areVisits_n r) (i_areVisits_o (list, early, late) r)), (5, .b false), (7, .n (list.length : Int))] (.cons (i_areVisits_c h) (.cons hb (.cons (len_m Enc.e list) .nil))) (by kernel_rfl) ?_
      exact thN (Wk_J hL ⟨[(0, []), (1, []), (2, []), (18, [])], [], [], 32⟩ (by kernel_rfl))
  have hm := hk
  refine X_cond v (by kernel_rfl) (fun hc => ?_) (fun hc => ?_)
  · have hm := it hc hm
    refine X_reg_seq ty_ok Γok hL [] .nil (by kernel_rfl) ?_
    obtain rfl := some_inj hm
    refine Ok_ret ?_
    repeat (first | refine thR ?_ | refine ibR ?_)
    exact X_fin [] [] (by kernel_rfl) trivial
  · have hm := ie hc hm
    refine X_skip ?_
    refine thN ?_
    obtain ⟨r1, h1, hm⟩ := obind hm
    obtain ⟨r2, h2, hm⟩ := obind hm
    refine X_reg_seq ty_ok Γok hL [(3, .c (i_shareOf__i_one_r r1) (i_shareOf__i_one_n r1) (i_shareOf__i_one_o (list, early, late) r1)), (6, .c (i_fraction_r r2) (i_fraction_n r2) (i_fraction_o (r1.1, r1.2) r2))] (.cons (i_shareOf__i_one_c h1) (.cons (i_fraction_c h2) .nil)) (by kernel_rfl) ?_
    obtain rfl := some_inj hm
    refine Ok_ret ?_
    repeat (first | refine thR ?_ | refine ibR ?_)
    exact X_fin [] [] (by kernel_rfl) trivial
abbrev s_l1Most_r (y : Int) : AV := .dat (Enc.e y)
abbrev s_l1Most_n (y : Int) : List Obj' := []
abbrev s_l1Most_o (x : Int × Int) (y : Int) : List Obj' := []
noncomputable def s_l1Most_S : FnSpec := modS [.rd, .rd] (fun x : Int × Int => [Enc.e x.1, Enc.e x.2]) (fun x : Int × Int => []) (fun x : Int × Int => s_l1Most x.1 x.2) s_l1Most_r s_l1Most_n s_l1Most_o
theorem s_l1Most_c {a : Int} {b : Int} {y : Int} (h : s_l1Most a b = some y) : CallOK s_l1Most_S [Enc.e a, Enc.e b] [] (s_l1Most_r y) (s_l1Most_n y) (s_l1Most_o (a, b) y) :=
  modS_call (by
    rintro ⟨a0, a1⟩ ⟨b0, b1⟩ h hO
    have q0 : a0 = b0 := Enc.inj _ _ (congrArg (fun l => List.getD l 0 (.sc undef)) h)
    have q1 : a1 = b1 := Enc.inj _ _ (congrArg (fun l => List.getD l 1 (.sc undef)) h)
    subst q0; subst q1; rfl) (x := (a, b)) h
theorem s_l1Most_ok : FnOK Try.prog 181 s_l1Most_S := by
  have Γok : ∀ f S, lookF f [] = some S → FnOK Try.prog f S := lookF_ok allF_nil
  have Γlive : Live (fun f => lookF f []) := lookF_live allL_nil
  refine fnOK_mod ty_ok (fun args w => Try.call181 args w) Try.func181 rfl [.tmp 4] (by rw [Try.results181]) 10 Try.ntmps181 16 rfl (fun _ => by first | exact Nat.zero_le _ | (simp)) ?_
  rintro ⟨a, b⟩ y cx hm hL
  have hm : s_l1Most a b = some y := hm
  have hL : cx.L = 0 := hL
  unfold s_l1Most at hm
  refine X_reg_seq ty_ok Γok hL [] .nil (by kernel_rfl) ?_
  refine Ok_seq ?_
  refine X_reg_seq ty_ok Γok hL [] .nil (by kernel_rfl) ?_
  refine X_cond (decide (b < a)) (by kernel_rfl) (fun hc => ?_) (fun hc => ?_)
  · have hm := it hc hm
    refine X_reg_seq ty_ok Γok hL [] .nil (by kernel_rfl) ?_
    obtain rfl := some_inj hm
    refine Ok_ret ?_
    repeat (first | refine thR ?_ | refine ibR ?_)
    exact X_fin [] [] (by kernel_rfl) trivial
  · have hm := ie hc hm
    refine X_skip ?_
    refine thN ?_
    refine X_reg_seq ty_ok Γok hL [] .nil (by kernel_rfl) ?_
    obtain rfl := some_inj hm
    refine Ok_ret ?_
    repeat (first | refine thR ?_ | refine ibR ?_)
    exact X_fin [] [] (by kernel_rfl) trivial
abbrev s_DrawDelayQuantile_r (y : (List Visit) × Int × Int) : AV := .tup [.own 0, .dat (Enc.e y.2.1), .dat (Enc.e y.2.2)]
abbrev s_DrawDelayQuantile_n (y : (List Visit) × Int × Int) : List Obj' := [.arr 206 4 (List.map Enc.e y.1)]
abbrev s_DrawDelayQuantile_o (x : (List UInt8)) (y : (List Visit) × Int × Int) : List Obj' := []
noncomputable def s_DrawDelayQuantile_S : FnSpec := modS [.rd] (fun x : (List UInt8) => [Enc.e x]) (fun x : (List UInt8) => []) (fun x : (List UInt8) => s_DrawDelayQuantile x) s_DrawDelayQuantile_r s_DrawDelayQuantile_n s_DrawDelayQuantile_o
theorem s_DrawDelayQuantile_c {code : List UInt8} {y : (List Visit) × Int × Int} (h : s_DrawDelayQuantile code = some y) : CallOK s_DrawDelayQuantile_S [Enc.e code] [] (s_DrawDelayQuantile_r y) (s_DrawDelayQuantile_n y) (s_DrawDelayQuantile_o code y) :=
  modS_call (by
    rintro a0 b0 h hO
    have q0 : a0 = b0 := Enc.inj _ _ (congrArg (fun l => List.getD l 0 (.sc undef)) h)
    subst q0; rfl) (x := code) h
theorem s_DrawDelayQuantile_ok : FnOK Try.prog 78 s_DrawDelayQuantile_S := by
  have Γok : ∀ f S, lookF f [(166, s_l1Cur_visits_S), (103, s_l1Cur_pick_S), (167, s_l1Cur_among_S), (181, s_l1Most_S)] = some S → FnOK Try.prog f S := lookF_ok (allF_cons s_l1Cur_visits_ok (allF_cons s_l1Cur_pick_ok (allF_cons s_l1Cur_among_ok (allF_cons s_l1Most_ok allF_nil))))
  have Γlive : Live (fun f => lookF f [(166, s_l1Cur_visits_S), (103, s_l1Cur_pick_S), (167, s_l1Cur_among_S), (181, s_l1Most_S)]) := lookF_live (allL_cons modS_live (allL_cons modS_live (allL_cons modS_live (allL_cons modS_live allL_nil))))
  refine fnOK_mod ty_ok (fun args w => Try.call78 args w) Try.func78 rfl [.tmp 2, .tmp 3, .tmp 4] (by rw [Try.results78]) 39 Try.ntmps78 16 rfl (fun _ => by first | exact Nat.zero_le _ | (simp)) ?_
  rintro code y cx hm hL
  have hm : s_DrawDelayQuantile code = some y := hm
  have hL : cx.L = 0 := hL
  unfold s_DrawDelayQuantile at hm
  refine X_reg_seq ty_ok Γok hL [] .nil (by kernel_rfl) ?_
  refine X_reg_seq ty_ok Γok hL [] .nil (by kernel_rfl) ?_
  obtain ⟨r, h, hm⟩ := obind hm
  refine X_reg_seq ty_ok Γok hL [(1, .c (s_l1Cur_visits_r r) (s_l1Cur_visits_n r) (s_l1Cur_visits_o (⟨code, 0, (⟨0⟩ : IK .u64)⟩ : l1Cur) r))] (.cons (s_l1Cur_visits_c h) .nil) (by kernel_rfl) ?_
  obtain ⟨r1, h1, hm⟩ := obind hm
  obtain ⟨u, h2, hm⟩ := obind hm
  obtain ⟨u1, h3, hm⟩ := obind hm
  obtain ⟨r2, h4, hm⟩ := obind hm
  refine X_reg_seq ty_ok Γok hL [(3, .c (s_l1Cur_pick_r r1) (s_l1Cur_pick_n r1) (s_l1Cur_pick_o (r.2, 24) r1)), (6, .fz [192] [] []), (6, .l (List.map Enc.e ((([1, 2, 3, 10, 1000, 0, 1001] : List Int).take (w64 (5 + (w64 (r1.1.tdiv 11)))).toNat).drop (0 : Int).toNat))), (7, .c (s_l1Cur_among_r r2) (s_l1Cur_among_n r2) (s_l1Cur_among_o (r1.2, ((([1, 2, 3, 10, 1000, 0, 1001] : List Int).take (w64 (5 + (w64 (r1.1.tdiv 11)))).toNat).drop (0 : Int).toNat)) r2))] (.cons (s_l1Cur_pick_c h1) (.cons (chk_t h2) (.cons (cut_p (f := Enc.e) (l := ([1, 2, 3, 10, 1000, 0, 1001] : List Int)) (lo := 0) (hi := (w64 (5 + (w64 (r1.1.tdiv 11))))) (chk_t h3)) (.cons (cut_m Enc.e ([1, 2, 3, 10, 1000, 0, 1001] : List Int) (0 : Int).toNat (w64 (5 + (w64 (r1.1.tdiv 11)))).toNat) (.cons (s_l1Cur_among_c h4) .nil))))) (by kernel_rfl) ?_
  obtain ⟨u2, h5, hm⟩ := obind hm
  obtain ⟨r3, h6, hm⟩ := obind hm
  obtain ⟨u3, h7, hm⟩ := obind hm
  obtain ⟨r4, h8, hm⟩ := obind hm
  obtain ⟨r5, h9, hm⟩ := obind hm
  obtain ⟨u4, h10, hm⟩ := obind hm
  obtain ⟨u5, h11, hm⟩ := obind hm
  obtain ⟨r6, h12, hm⟩ := obind hm
  refine X_reg_seq ty_ok Γok hL [(5, .c (s_l1Most_r r3) (s_l1Most_n r3) (s_l1Most_o ((w64 (r2.1.tdiv 2)), 1) r3)), (9, .c (s_l1Most_r r4) (s_l1Most_n r4) (s_l1Most_o ((w64 ((w64 (r2.1 * 9)).tdiv 10)), 1) r4)), (12, .c (s_l1Cur_pick_r r5) (s_l1Cur_pick_n r5) (s_l1Cur_pick_o (r2.2, 24) r5)), (15, .fz [480] [] []), (15, .l (List.map Enc.e ((([1, r2.1, r3, r4, 0] : List Int).take (w64 (4 + (w64 (r5.1.tdiv 23)))).toNat).drop (0 : Int).toNat))), (16, .c (s_l1Cur_among_r r6) (s_l1Cur_among_n r6) (s_l1Cur_among_o (r5.2, ((([1, r2.1, r3, r4, 0] : List Int).take (w64 (4 + (w64 (r5.1.tdiv 23)))).toNat).drop (0 : Int).toNat)) r6))] (.cons (chk_t h5) (.cons (s_l1Most_c h6) (.cons (chk_t h7) (.cons (s_l1Most_c h8) (.cons (s_l1Cur_pick_c h9) (.cons (chk_t h10) (.cons (cut_p (f := Enc.e) (l := ([1, r2.1, r3, r4, 0] : List Int)) (lo := 0) (hi := (w64 (4 + (w64 (r5.1.tdiv 23))))) (chk_t h11)) (.cons (cut_m Enc.e ([1, r2.1, r3, r4, 0] : List Int) (0 : Int).toNat (w64 (4 + (w64 (r5.1.tdiv 23)))).toNat) (.cons (s_l1Cur_among_c h12) .nil))))))))) (by kernel_rfl) ?_
  obtain rfl := some_inj hm
  refine Ok_ret ?_
  repeat (first | refine thR ?_ | refine ibR ?_)
  exact X_fin [144] [] (by kernel_rfl) trivial
abbrev s_DelayQuantile_r (y : Int × Bool) : AV := .tup [.dat (Enc.e y.1), .dat (Enc.e y.2)]
abbrev s_DelayQuantile_n (y : Int × Bool) : List Obj' := []
abbrev s_DelayQuantile_o (x : (List Visit) × Int × Int) (y : Int × Bool) : List Obj' := []
noncomputable def s_DelayQuantile_S : FnSpec := modS [.rd, .rd, .rd] (fun x : (List Visit) × Int × Int => [Enc.e x.1, Enc.e x.2.1, Enc.e x.2.2]) (fun x : (List Visit) × Int × Int => []) (fun x : (List Visit) × Int × Int => s_DelayQuantile x.1 x.2.1 x.2.2) s_DelayQuantile_r s_DelayQuantile_n s_DelayQuantile_o
theorem s_DelayQuantile_c {list : List Visit} {num : Int} {den : Int} {y : Int × Bool} (h : s_DelayQuantile list num den = some y) : CallOK s_DelayQuantile_S [Enc.e list, Enc.e num, Enc.e den] [] (s_DelayQuantile_r y) (s_DelayQuantile_n y) (s_DelayQuantile_o (list, num, den) y) :=
  modS_call (by
    rintro ⟨a0, a1, a2⟩ ⟨b0, b1, b2⟩ h hO
    have q0 : a0 = b0 := Enc.inj _ _ (congrArg (fun l => List.getD l 0 (.sc undef)) h)
    have q1 : a1 = b1 := Enc.inj _ _ (congrArg (fun l => List.getD l 1 (.sc undef)) h)
    have q2 : a2 = b2 := Enc.inj _ _ (congrArg (fun l => List.getD l 2 (.sc undef)) h)
    subst q0; subst q1; subst q2; rfl) (x := (list, num, den)) h
theorem s_DelayQuantile_ok : FnOK Try.prog 79 s_DelayQuantile_S := by
  have Γok : ∀ f S, lookF f [(170, s_l22Good_S), (88, s_l1In_S), (182, s_l1Least_S)] = some S → FnOK Try.prog f S := lookF_ok (allF_cons s_l22Good_ok (allF_cons s_l1In_ok (allF_cons s_l1Least_ok allF_nil)))
  have Γlive : Live (fun f => lookF f [(170, s_l22Good_S), (88, s_l1In_S), (182, s_l1Least_S)]) := lookF_live (allL_cons modS_live (allL_cons modS_live (allL_cons modS_live allL_nil)))
  refine fnOK_mod ty_ok (fun args w => Try.call79 args w) Try.func79 rfl [.tmp 6, .tmp 7] (by rw [Try.results79]) 82 Try.ntmps79 16 rfl (fun _ => by first | exact Nat.zero_le _ | (simp)) ?_
  rintro ⟨list, num, den⟩ y cx hm hL
  have hm : s_DelayQuantile list num den = some y := hm
  have hL : cx.L = 0 := hL
  unfold s_DelayQuantile at hm
  refine X_reg_seq ty_ok Γok hL [] .nil (by kernel_rfl) ?_
  refine Ok_seq ?_
  obtain ⟨r, h, hm⟩ := obind hm
  obtain ⟨v, hv, hk⟩ := obind hm
  refine X_join (n := 82) (fun (v : Bool) => (⟨[(0, .dat (Enc.e list)), (1, .dat (.sc (.int .i64 num))), (2, .dat (.sc (.int .i64 den))), (31, .dat (.sc (.bool v)))], [], 32⟩ : X)) v ?_ ?_
  · have hm := hv
    rcases btf (!r) with hb | hb
    · have hm := it hb hm
      obtain rfl := some_inj hm
      refine X_reg ty_ok Γok hL [(1, .c (s_l22Good_r r) (s_l22Good_n r) (s_l22Good_o list r)), (3, .b true)] (.cons (s_l22Good_c h) (.cons hb .nil)) (by kernel_rfl) ?_
      exact thN (Wk_J hL ⟨[(0, []), (1, []), (2, []), (31, [])], [], [], 32⟩ (by kernel_rfl))
    · have hm := ie hb hm
      rcases btf ((list.length : Int) == 0) with hb1 | hb1
      · have hm := it hb1 hm
        obtain rfl := some_inj hm
        refine X_reg ty_ok Γok hL [(1, .c (s_l22Good_r r) (s_l22Good_n r) (s_l22Good_o list r)), (3, .b false), (5, .n (list.length : Int)), (8, .b true)] (.cons (s_l22Good_c h) (.cons hb (.cons (len_m Enc.e list) (.cons hb1 .nil)))) (by kernel_rfl) ?_
        exact thN (Wk_J hL ⟨[(0, []), (1, []), (2, []), (31, [])], [], [], 32⟩ (by kernel_rfl))
      · have hm := ie hb1 hm
        obtain ⟨r1, h1, hm⟩ := obind hm
        rcases btf (!r1) with hb2 | hb2
        · have hm := it hb2 hm
          obtain rfl := some_inj hm
          refine X_reg ty_ok Γok hL [(1, .c (s_l22Good_r r) (s_l22Good_n r) (s_l22Good_o list r)), (3, .b false), (5, .n (list.length : Int)), (8, .b false), (10, .c (s_l1In_r r1) (s_l1In_n r1) (s_l1In_o (den, 1, 1000) r1)), (13, .b true)] (.cons (s_l22Good_c h) (.cons hb (.cons (len_m Enc.e list) (.cons hb1 (.cons (s_l1In_c h1) (.cons hb2 .nil)))))) (by kernel_rfl) ?_
          exact thN (Wk_J hL ⟨[(0, []), (1, []), (2, []), (31, [])], [], [], 32⟩ (by kernel_rfl))
        · have hm := ie hb2 hm
          obtain ⟨r2, h2, hm⟩ := obind hm
          obtain rfl := some_inj hm
          refine X_reg ty_ok Γok hL [(1, .c (s_l22Good_r r) (s_l22Good_n r) (s_l22Good_o list r)), (3, .b false), (5, .n (list.length : Int)), (8, .b false), (10, .c (s_l1In_r r1) (s_l1In_n r1) (s_l1In_o (den, 1, 1000) r1)), (13, .b false), (16, .c (s_l1In_r r2) (s_l1In_n r2) (s_l1In_o (num, 1, den) r2))] (.cons (s_l22Good_c h) (.cons hb (.cons (len_m Enc.e list) (.cons hb1 (.cons (s_l1In_c h1) (.cons hb2 (.cons (s_l1In_c h2) .nil))))))) (by kernel_rfl) ?_
          exact thN (Wk_J hL ⟨[(0, []), (1, []), (2, []), (31, [])], [], [], 32⟩ (by kernel_rfl))
  have hm := hk
  refine X_cond v (by kernel_rfl) (fun hc => ?_) (fun hc => ?_)
  · have hm := it hc hm
    refine X_reg_seq ty_ok Γok hL [] .nil (by kernel_rfl) ?_
    obtain rfl := some_inj hm
    refine Ok_ret ?_
    repeat (first | refine thR ?_ | refine ibR ?_)
    exact X_fin [] [] (by kernel_rfl) trivial
  · have hm := ie hc hm
    refine X_skip ?_
    refine thN ?_
    refine X_reg_seq ty_ok Γok hL [] .nil (by kernel_rfl) ?_
    refine Ok_seq ?_
    refine X_reg_seq ty_ok Γok hL [] .nil (by kernel_rfl) ?_
    obtain ⟨n2, hv4, hk4⟩ := obind hm
    refine X_tail (n := 82) (fun (n2 : Int) => (⟨[(8, .dat (.sc (.int .i64 n2)))], [], 32⟩ : X)) n2 ?_ ?_
    · have hm := hv4
      refine Ok_block ?_
      refine X_loop (n := 82) (step := s_DelayQuantile_L2 list num den) (fun ((n, k) : Int × Int) => (⟨[(0, .dat (Enc.e list)), (1, .dat (.sc (.int .i64 num))), (2, .dat (.sc (.int .i64 den))), (8, .dat (.sc (.int .i64 n))), (9, .dat (.sc (.int .i64 k)))], [], 32⟩ : X)) hm (Wk_J hL ⟨[(0, []), (1, []), (2, []), (8, []), (9, [])], [], [], 32⟩ (by kernel_rfl)) ?_
      rintro ⟨n, k⟩ r0 hm hb3
      rw [s_DelayQuantile_L2] at hm
      refine Ok_seq ?_
      refine X_reg_seq ty_ok Γok hL [(2, .n (list.length : Int))] (.cons (len_m Enc.e list) .nil) (by kernel_rfl) ?_
      refine X_cond (decide (k < (list.length : Int))) (by kernel_rfl) (fun hc1 => ?_) (fun hc1 => ?_)
      · have hm := it hc1 hm
        refine X_skip ?_
        refine thN ?_
        obtain ⟨n1, hv1, hk1⟩ := obind hm
        refine X_join (n := 82) (fun (n1 : Int) => (⟨[(0, .dat (Enc.e list)), (1, .dat (.sc (.int .i64 num))), (2, .dat (.sc (.int .i64 den))), (8, .dat (.sc (.int .i64 n1))), (9, .dat (.sc (.int .i64 k)))], [], 32⟩ : X)) n1 ?_ ?_
        · have hm := hv1
          refine Ok_block ?_
          obtain ⟨e2, h5, hm⟩ := obind hm
          obtain ⟨e3, h6, hm⟩ := obind hm
          refine X_draw_seq mixed ty_ok Γok Γlive [] (by kernel_rfl) [(2, .d (Enc.e e2)), (7, .d (Enc.e e3))] (.cons (idx_m (f := Enc.e) h5) (.cons (idx_m (f := Enc.e) h6) .nil)) (by kernel_rfl) ?_
          refine X_reg_seq ty_ok Γok hL [] .nil (by kernel_rfl) ?_
          refine Ok_seq ?_
          refine X_reg_seq ty_ok Γok hL [] .nil (by kernel_rfl) ?_
          obtain ⟨v4, hv3, hk3⟩ := obind hm
          refine X_tail (n := 82) (fun (v4 : Int) => (⟨[(0, .dat (Enc.e list)), (1, .dat (.sc (.int .i64 num))), (2, .dat (.sc (.int .i64 den))), (8, .dat (.sc (.int .i64 n))), (9, .dat (.sc (.int .i64 k))), (10, .dat (.sc (.int .i64 (w64 (e2.Actual - e3.Planned))))), (11, .dat (.sc (.int .i64 v4)))], [], 32⟩ : X)) v4 ?_ ?_
          · have hm := hv3
            refine Ok_block ?_
            refine X_loop (n := 82) (step := s_DelayQuantile_L1 list e2 e3) (fun ((v1, v2) : Int × Int) => (⟨[(0, .dat (Enc.e list)), (1, .dat (.sc (.int .i64 num))), (2, .dat (.sc (.int .i64 den))), (8, .dat (.sc (.int .i64 n))), (9, .dat (.sc (.int .i64 k))), (10, .dat (.sc (.int .i64 (w64 (e2.Actual - e3.Planned))))), (11, .dat (.sc (.int .i64 v1))), (12, .dat (.sc (.int .i64 v2)))], [], 32⟩ : X)) hm (Wk_J hL ⟨[(0, []), (1, []), (2, []), (8, []), (9, []), (10, []), (11, []), (12, [])], [], [], 32⟩ (by kernel_rfl)) ?_
            rintro ⟨v1, v2⟩ r0 hm hb4
            rw [s_DelayQuantile_L1] at hm
            refine Ok_seq ?_
            refine X_reg_seq ty_ok Γok hL [(2, .n (list.length : Int))] (.cons (len_m Enc.e list) .nil) (by kernel_rfl) ?_
            refine X_cond (decide (v2 < (list.length : Int))) (by kernel_rfl) (fun hc2 => ?_) (fun hc2 => ?_)
            · have hm := it hc2 hm
              refine X_skip ?_
              refine thN ?_
              obtain ⟨v3, hv2, hk2⟩ := obind hm
              refine X_join (n := 82) (fun (v3 : Int) => (⟨[(0, .dat (Enc.e list)), (1, .dat (.sc (.int .i64 num))), (2, .dat (.sc (.int .i64 den))), (8, .dat (.sc (.int .i64 n))), (9, .dat (.sc (.int .i64 k))), (10, .dat (.sc (.int .i64 (w64 (e2.Actual - e3.Planned))))), (11, .dat (.sc (.int .i64 v3))), (12, .dat (.sc (.int .i64 v2)))], [], 32⟩ : X)) v3 ?_ ?_
              · have hm := hv2
                refine Ok_block ?_
                obtain ⟨e6, h9, hm⟩ := obind hm
                obtain ⟨e7, h10, hm⟩ := obind hm
                refine X_draw_seq mixed ty_ok Γok Γlive [] (by kernel_rfl) [(2, .d (Enc.e e6)), (7, .d (Enc.e e7))] (.cons (idx_m (f := Enc.e) h9) (.cons (idx_m (f := Enc.e) h10) .nil)) (by kernel_rfl) ?_
                refine X_cond (decide ((w64 (e6.Actual - e7.Planned)) ≤ (w64 (e2.Actual - e3.Planned)))) (by kernel_rfl) (fun hc3 => ?_) (fun hc3 => ?_)
                · have hm := it hc3 hm
                  refine X_reg ty_ok Γok hL [] .nil (by kernel_rfl) ?_
                  refine ibN ?_
                  obtain rfl := some_inj hm
                  exact thN (Wk_J hL ⟨[(0, []), (1, []), (2, []), (8, []), (9, []), (10, []), (11, []), (12, [])], [], [], 32⟩ (by kernel_rfl))
                · have hm := ie hc3 hm
                  refine X_skip ?_
                  refine ibN ?_
                  obtain rfl := some_inj hm
                  exact thN (Wk_J hL ⟨[(0, []), (1, []), (2, []), (8, []), (9, []), (10, []), (11, []), (12, [])], [], [], 32⟩ (by kernel_rfl))
              have hm := hk2
              refine X_reg ty_ok Γok hL [] .nil (by kernel_rfl) ?_
              obtain rfl := some_inj hm
              exact thN ⟨_, rfl, Wk_J hL ⟨[(0, []), (1, []), (2, []), (8, []), (9, []), (10, []), (11, []), (12, [])], [], [], 32⟩ (by kernel_rfl)⟩
            · have hm := ie hc2 hm
              obtain rfl := some_inj hm
              obtain rfl := hb4 _ rfl
              refine Ok_exit ?_
              refine thE ?_
              refine thE ?_
              refine ibE ?_
              exact thN (Wk_J hL ⟨[(0, []), (1, []), (2, []), (8, []), (9, []), (10, []), (11, [])], [], [], 32⟩ (by kernel_rfl))
          intro s hw
          have hm := hk3
          refine thN ?_
          refine Ok_weak hw ?_
          refine X_reg_seq ty_ok Γok hL [(5, .n (list.length : Int))] (.cons (len_m Enc.e list) .nil) (by kernel_rfl) ?_
          refine X_cond (decide ((w64 (num * (list.length : Int))) ≤ (w64 (v4 * den)))) (by kernel_rfl) (fun hc4 => ?_) (fun hc4 => ?_)
          · have hm := it hc4 hm
            obtain ⟨r3, h11, hm⟩ := obind hm
            refine X_reg ty_ok Γok hL [(2, .c (s_l1Least_r r3) (s_l1Least_n r3) (s_l1Least_o (n, (w64 (e2.Actual - e3.Planned))) r3))] (.cons (s_l1Least_c h11) .nil) (by kernel_rfl) ?_
            refine ibN ?_
            obtain rfl := some_inj hm
            exact thN (Wk_J hL ⟨[(0, []), (1, []), (2, []), (8, []), (9, [])], [], [], 32⟩ (by kernel_rfl))
          · have hm := ie hc4 hm
            refine X_skip ?_
            refine ibN ?_
            obtain rfl := some_inj hm
            exact thN (Wk_J hL ⟨[(0, []), (1, []), (2, []), (8, []), (9, [])], [], [], 32⟩ (by kernel_rfl))
        have hm := hk1
        refine X_reg ty_ok Γok hL [] .nil (by kernel_rfl) ?_
        obtain rfl := some_inj hm
        exact thN ⟨_, rfl, Wk_J hL ⟨[(0, []), (1, []), (2, []), (8, []), (9, [])], [], [], 32⟩ (by kernel_rfl)⟩
      · have hm := ie hc1 hm
        obtain rfl := some_inj hm
        obtain rfl := hb3 _ rfl
        refine Ok_exit ?_
        refine thE ?_
        refine thE ?_
        refine ibE ?_
        exact thN (Wk_J hL ⟨[(8, [])], [], [], 32⟩ (by kernel_rfl))
    intro s1 hw1
    have hm := hk4
    refine thN ?_
    refine Ok_weak hw1 ?_
    refine X_reg_seq ty_ok Γok hL [] .nil (by kernel_rfl) ?_
    obtain rfl := some_inj hm
    refine Ok_ret ?_
    repeat (first | refine thR ?_ | refine ibR ?_)
    exact X_fin [] [] (by kernel_rfl) trivial
abbrev s_DrawExcessWait_r (y : (List Visit) × Int) : AV := .tup [.own 0, .dat (Enc.e y.2)]
abbrev s_DrawExcessWait_n (y : (List Visit) × Int) : List Obj' := [.arr 206 4 (List.map Enc.e y.1)]
abbrev s_DrawExcessWait_o (x : (List UInt8)) (y : (List Visit) × Int) : List Obj' := []
noncomputable def s_DrawExcessWait_S : FnSpec := modS [.rd] (fun x : (List UInt8) => [Enc.e x]) (fun x : (List UInt8) => []) (fun x : (List UInt8) => s_DrawExcessWait x) s_DrawExcessWait_r s_DrawExcessWait_n s_DrawExcessWait_o
theorem s_DrawExcessWait_c {code : List UInt8} {y : (List Visit) × Int} (h : s_DrawExcessWait code = some y) : CallOK s_DrawExcessWait_S [Enc.e code] [] (s_DrawExcessWait_r y) (s_DrawExcessWait_n y) (s_DrawExcessWait_o code y) :=
  modS_call (by
    rintro a0 b0 h hO
    have q0 : a0 = b0 := Enc.inj _ _ (congrArg (fun l => List.getD l 0 (.sc undef)) h)
    subst q0; rfl) (x := code) h
theorem s_DrawExcessWait_ok : FnOK Try.prog 80 s_DrawExcessWait_S := by
  have Γok : ∀ f S, lookF f [(166, s_l1Cur_visits_S), (103, s_l1Cur_pick_S), (167, s_l1Cur_among_S)] = some S → FnOK Try.prog f S := lookF_ok (allF_cons s_l1Cur_visits_ok (allF_cons s_l1Cur_pick_ok (allF_cons s_l1Cur_among_ok allF_nil)))
  have Γlive : Live (fun f => lookF f [(166, s_l1Cur_visits_S), (103, s_l1Cur_pick_S), (167, s_l1Cur_among_S)]) := lookF_live (allL_cons modS_live (allL_cons modS_live (allL_cons modS_live allL_nil)))
  refine fnOK_mod ty_ok (fun args w => Try.call80 args w) Try.func80 rfl [.tmp 2, .tmp 3] (by rw [Try.results80]) 20 Try.ntmps80 16 rfl (fun _ => by first | exact Nat.zero_le _ | (simp)) ?_
  rintro code y cx hm hL
  have hm : s_DrawExcessWait code = some y := hm
  have hL : cx.L = 0 := hL
  unfold s_DrawExcessWait at hm
  refine X_reg_seq ty_ok Γok hL [] .nil (by kernel_rfl) ?_
  refine X_reg_seq ty_ok Γok hL [] .nil (by kernel_rfl) ?_
  obtain ⟨r, h, hm⟩ := obind hm
  refine X_reg_seq ty_ok Γok hL [(1, .c (s_l1Cur_visits_r r) (s_l1Cur_visits_n r) (s_l1Cur_visits_o (⟨code, 0, (⟨0⟩ : IK .u64)⟩ : l1Cur) r))] (.cons (s_l1Cur_visits_c h) .nil) (by kernel_rfl) ?_
  obtain ⟨r1, h1, hm⟩ := obind hm
  obtain ⟨u, h2, hm⟩ := obind hm
  obtain ⟨u1, h3, hm⟩ := obind hm
  obtain ⟨r2, h4, hm⟩ := obind hm
  refine X_reg_seq ty_ok Γok hL [(4, .c (s_l1Cur_pick_r r1) (s_l1Cur_pick_n r1) (s_l1Cur_pick_o (r.2, 24) r1)), (7, .fz [192] [] []), (7, .l (List.map Enc.e ((([0, 1, 2, 3, 7, (-1), 8] : List Int).take (w64 (5 + (w64 (r1.1.tdiv 11)))).toNat).drop (0 : Int).toNat))), (8, .c (s_l1Cur_among_r r2) (s_l1Cur_among_n r2) (s_l1Cur_among_o (r1.2, ((([0, 1, 2, 3, 7, (-1), 8] : List Int).take (w64 (5 + (w64 (r1.1.tdiv 11)))).toNat).drop (0 : Int).toNat)) r2))] (.cons (s_l1Cur_pick_c h1) (.cons (chk_t h2) (.cons (cut_p (f := Enc.e) (l := ([0, 1, 2, 3, 7, (-1), 8] : List Int)) (lo := 0) (hi := (w64 (5 + (w64 (r1.1.tdiv 11))))) (chk_t h3)) (.cons (cut_m Enc.e ([0, 1, 2, 3, 7, (-1), 8] : List Int) (0 : Int).toNat (w64 (5 + (w64 (r1.1.tdiv 11)))).toNat) (.cons (s_l1Cur_among_c h4) .nil))))) (by kernel_rfl) ?_
  obtain rfl := some_inj hm
  refine Ok_ret ?_
  repeat (first | refine thR ?_ | refine ibR ?_)
  exact X_fin [128] [] (by kernel_rfl) trivial
abbrev i_visitsAt_r (y : (List Visit)) : AV := .own 0
abbrev i_visitsAt_n (y : (List Visit)) : List Obj' := [.arr 206 4 (List.map Enc.e y)]
abbrev i_visitsAt_o (x : (List Visit) × Int) (y : (List Visit)) : List Obj' := []
noncomputable def i_visitsAt_S : FnSpec := modS [.rd, .rd] (fun x : (List Visit) × Int => [Enc.e x.1, Enc.e x.2]) (fun x : (List Visit) × Int => []) (fun x : (List Visit) × Int => i_visitsAt x.1 x.2) i_visitsAt_r i_visitsAt_n i_visitsAt_o
theorem i_visitsAt_c {list : List Visit} {stop : Int} {y : (List Visit)} (h : i_visitsAt list stop = some y) : CallOK i_visitsAt_S [Enc.e list, Enc.e stop] [] (i_visitsAt_r y) (i_visitsAt_n y) (i_visitsAt_o (list, stop) y) :=
  modS_call (by
    rintro ⟨a0, a1⟩ ⟨b0, b1⟩ h hO
    have q0 : a0 = b0 := Enc.inj _ _ (congrArg (fun l => List.getD l 0 (.sc undef)) h)
    have q1 : a1 = b1 := Enc.inj _ _ (congrArg (fun l => List.getD l 1 (.sc undef)) h)
    subst q0; subst q1; rfl) (x := (list, stop)) h
theorem i_visitsAt_ok : FnOK Try.prog 183 i_visitsAt_S := by
  have Γok : ∀ f S, lookF f [] = some S → FnOK Try.prog f S := lookF_ok allF_nil
  have Γlive : Live (fun f => lookF f []) := lookF_live allL_nil
  refine fnOK_mod ty_ok (fun args w => Try.call183 args w) Try.func183 rfl [.tmp 4] (by rw [Try.results183]) 24 Try.ntmps183 16 rfl (fun _ => by first | exact Nat.zero_le _ | (simp)) ?_
  rintro ⟨list, stop⟩ y cx hm hL
  have hm : i_visitsAt list stop = some y := hm
  have hL : cx.L = 0 := hL
  unfold i_visitsAt at hm
  refine X_reg_seq ty_ok Γok hL [] .nil (by kernel_rfl) ?_
  refine X_reg_seq ty_ok Γok hL [] .nil (by kernel_rfl) ?_
  refine Ok_seq ?_
  refine X_reg_seq ty_ok Γok hL [(1, .n (list.length : Int))] (.cons (len_m Enc.e list) .nil) (by kernel_rfl) ?_
  obtain ⟨v3, hv1, hk1⟩ := obind hm
  refine X_tail (n := 24) (fun (v3 : List Visit) => (⟨[(5, .own 16)], [(16, some (.arr 206 4 (List.map Enc.e v3)))], 48⟩ : X)) v3 ?_ ?_
  · have hm := hv1
    refine Ok_block ?_
    refine X_loop (n := 24) (step := i_visitsAt_L1 list stop) (fun ((v, v1) : Int × (List Visit)) => (⟨[(1, .dat (.sc (.int .i64 stop))), (5, .own 16), (8, .dat (Enc.e list)), (9, .dat (.sc (.int .i64 (list.length : Int)))), (10, .dat (.sc (.int .i64 v)))], [(16, some (.arr 206 4 (List.map Enc.e v1)))], 48⟩ : X)) hm (Wk_J hL ⟨[(1, []), (5, [.o 16]), (8, []), (9, []), (10, [])], [], [(16, 206, 4, [])], 48⟩ (by kernel_rfl)) ?_
    rintro ⟨v, v1⟩ r0 hm hb
    rw [i_visitsAt_L1] at hm
    refine X_reg_seq ty_ok Γok hL [] .nil (by kernel_rfl) ?_
    refine Ok_seq ?_
    refine X_cond (decide (v < (list.length : Int))) (by kernel_rfl) (fun hc => ?_) (fun hc => ?_)
    · have hm := it hc hm
      refine X_skip ?_
      refine thN ?_
      obtain ⟨v2, hv, hk⟩ := obind hm
      refine X_join (n := 24) (fun (v2 : List Visit) => (⟨[(1, .dat (.sc (.int .i64 stop))), (5, .own 16), (8, .dat (Enc.e list)), (9, .dat (.sc (.int .i64 (list.length : Int)))), (10, .dat (.sc (.int .i64 v)))], [(16, some (.arr 206 4 (List.map Enc.e v2)))], 48⟩ : X)) v2 ?_ ?_
      · have hm := hv
        refine Ok_block ?_
        obtain ⟨e, h, hm⟩ := obind hm
        refine X_reg_seq ty_ok Γok hL [(0, .d (Enc.e e))] (.cons (idx_m (f := Enc.e) h) .nil) (by kernel_rfl) ?_
        refine X_reg_seq ty_ok Γok hL [] .nil (by kernel_rfl) ?_
        refine X_cond (e.Stop == stop) (by kernel_rfl) (fun hc1 => ?_) (fun hc1 => ?_)
        · have hm := it hc1 hm
          obtain ⟨u, h1, hm⟩ := obind hm
          refine X_reg ty_ok Γok hL [(3, .l (List.map Enc.e (v1 ++ ([e] : List Visit))))] (.cons (app_p (f := Enc.e) (g := Enc.e) (l := v1) (r := ([e] : List Visit)) (b := 32) (chk_t h1) rfl) (.cons (app_m Enc.e v1 ([e] : List Visit)) .nil)) (by kernel_rfl) ?_
          refine ibN ?_
          obtain rfl := some_inj hm
          exact thN (Wk_J hL ⟨[(1, []), (5, []), (8, []), (9, []), (10, [])], [(16, 240, [])], [], 48⟩ (by kernel_rfl))
        · have hm := ie hc1 hm
          refine X_skip ?_
          refine ibN ?_
          obtain rfl := some_inj hm
          exact thN (Wk_J hL ⟨[(1, []), (5, []), (8, []), (9, []), (10, [])], [(16, 16, [])], [], 48⟩ (by kernel_rfl))
      have hm := hk
      refine X_reg ty_ok Γok hL [] .nil (by kernel_rfl) ?_
      obtain rfl := some_inj hm
      exact thN ⟨_, rfl, Wk_J hL ⟨[(1, []), (5, []), (8, []), (9, []), (10, [])], [(16, 16, [])], [], 48⟩ (by kernel_rfl)⟩
    · have hm := ie hc hm
      obtain rfl := some_inj hm
      obtain rfl := hb _ rfl
      refine Ok_exit ?_
      refine thE ?_
      refine thE ?_
      refine ibE ?_
      exact thN (Wk_J hL ⟨[(5, [])], [(16, 16, [])], [], 48⟩ (by kernel_rfl))
  intro s hw
  have hm := hk1
  refine thN ?_
  refine Ok_weak hw ?_
  refine X_reg_seq ty_ok Γok hL [] .nil (by kernel_rfl) ?_
  obtain rfl := some_inj hm
  refine Ok_ret ?_
  repeat (first | refine thR ?_ | refine ibR ?_)
  exact X_fin [16] [] (by kernel_rfl) trivial
abbrev i_waitOf_w_r (y : Int × Int × (List Int)) : AV := .tup [.dat (Enc.e y.1), .dat (Enc.e y.2.1)]
abbrev i_waitOf_w_n (y : Int × Int × (List Int)) : List Obj' := []
abbrev i_waitOf_w_o (x : (List Int)) (y : Int × Int × (List Int)) : List Obj' := [.arr 3 1 (List.map Enc.e y.2.2)]
noncomputable def i_waitOf_w_S : FnSpec := modS [.sl] (fun x : (List Int) => [.sc undef]) (fun x : (List Int) => [.arr 3 1 (List.map Enc.e x)]) (fun x : (List Int) => i_waitOf_w x) i_waitOf_w_r i_waitOf_w_n i_waitOf_w_o
theorem i_waitOf_w_c {times : List Int} {y : Int × Int × (List Int)} (h : i_waitOf_w times = some y) : CallOK i_waitOf_w_S [.sc undef] [.arr 3 1 (List.map Enc.e times)] (i_waitOf_w_r y) (i_waitOf_w_n y) (i_waitOf_w_o times y) :=
  modS_call (by
    rintro a0 b0 h hO
    have q0 : a0 = b0 := Enc.inj _ _ (congrArg (fun l => D.sl 1 (obL l 0)) hO)
    subst q0; rfl) (x := times) h
theorem i_waitOf_w_ok : FnOK Try.prog 184 i_waitOf_w_S := by
  have Γok : ∀ f S, lookF f [(173, slices_Sort_int_w_S)] = some S → FnOK Try.prog f S := lookF_ok (allF_cons slices_Sort_int_w_ok allF_nil)
  have Γlive : Live (fun f => lookF f [(173, slices_Sort_int_w_S)]) := lookF_live (allL_cons modS_live allL_nil)
  refine fnOK_mod ty_ok (fun args w => Try.call184 args w) Try.func184 rfl [.tmp 2, .tmp 3] (by rw [Try.results184]) 49 Try.ntmps184 16 rfl (fun _ => by first | exact Nat.zero_le _ | (simp)) ?_
  rintro times y cx hm hL
  have hm : i_waitOf_w times = some y := hm
  have hL : cx.L = 1 := hL
  unfold i_waitOf_w at hm
  refine X_reg_seq ty_ok Γok hL [] .nil (by kernel_rfl) ?_
  obtain ⟨r, h, hm⟩ := obind hm
  refine X_reg_seq ty_ok Γok hL [(1, .c (slices_Sort_int_w_r r) (slices_Sort_int_w_n r) (slices_Sort_int_w_o times r))] (.cons (slices_Sort_int_w_c h) .nil) (by kernel_rfl) ?_
  refine X_reg_seq ty_ok Γok hL [] .nil (by kernel_rfl) ?_
  refine Ok_seq ?_
  refine X_reg_seq ty_ok Γok hL [] .nil (by kernel_rfl) ?_
  obtain ⟨i1, hv, hk⟩ := obind hm
  refine X_tail (n := 49) (fun (i1 : Int) => (⟨[(0, .own 0), (4, .dat (.sc (.int .i64 i1)))], [(0, some (.arr 3 1 (List.map Enc.e r)))], 48⟩ : X)) i1 ?_ ?_
  · have hm := hv
    refine Ok_block ?_
    refine X_loop (n := 49) (step := i_waitOf_w_L1 r) (fun ((i, v) : Int × Int) => (⟨[(0, .own 0), (4, .dat (.sc (.int .i64 i))), (5, .dat (.sc (.int .i64 v)))], [(0, some (.arr 3 1 (List.map Enc.e r)))], 48⟩ : X)) hm (Wk_J hL ⟨[(0, []), (4, []), (5, [])], [(0, 0, [])], [], 48⟩ (by kernel_rfl)) ?_
    rintro ⟨i, v⟩ r0 hm hb
    rw [i_waitOf_w_L1] at hm
    refine Ok_seq ?_
    refine X_reg_seq ty_ok Γok hL [(2, .n (r.length : Int))] (.cons (len_m Enc.e r) .nil) (by kernel_rfl) ?_
    refine X_cond (decide (v < (r.length : Int))) (by kernel_rfl) (fun hc => ?_) (fun hc => ?_)
    · have hm := it hc hm
      refine X_skip ?_
      refine thN ?_
      refine Ok_seq ?_
      refine Ok_block ?_
      obtain ⟨e4, h5, hm⟩ := obind hm
      obtain ⟨e5, h6, hm⟩ := obind hm
      obtain ⟨e6, h7, hm⟩ := obind hm
      obtain ⟨e7, h8, hm⟩ := obind hm
      refine X_draw mixed ty_ok Γok Γlive [] (by kernel_rfl) [(3, .d (Enc.e e4)), (4, .d (Enc.e e4)), (8, .d (Enc.e e5)), (9, .d (Enc.e e5)), (13, .d (Enc.e e6)), (14, .d (Enc.e e6)), (18, .d (Enc.e e7)), (19, .d (Enc.e e7))] (.cons (idx_m (f := Enc.e) h5) (.cons (idx_m2 (f := Enc.e) h5) (.cons (idx_m (f := Enc.e) h6) (.cons (idx_m2 (f := Enc.e) h6) (.cons (idx_m (f := Enc.e) h7) (.cons (idx_m2 (f := Enc.e) h7) (.cons (idx_m (f := Enc.e) h8) (.cons (idx_m2 (f := Enc.e) h8) .nil)))))))) (by kernel_rfl) ?_
      refine ibN ?_
      refine thN ?_
      refine X_reg ty_ok Γok hL [] .nil (by kernel_rfl) ?_
      obtain rfl := some_inj hm
      exact thN ⟨_, rfl, Wk_J hL ⟨[(0, []), (4, []), (5, [])], [(0, 0, [])], [], 48⟩ (by kernel_rfl)⟩
    · have hm := ie hc hm
      obtain rfl := some_inj hm
      obtain rfl := hb _ rfl
      refine Ok_exit ?_
      refine thE ?_
      refine thE ?_
      refine ibE ?_
      exact thN (Wk_J hL ⟨[(0, []), (4, [])], [(0, 0, [])], [], 48⟩ (by kernel_rfl))
  intro s hw
  have hm := hk
  refine thN ?_
  refine Ok_weak hw ?_
  obtain ⟨e10, h11, hm⟩ := obind hm
  obtain ⟨e11, h12, hm⟩ := obind hm
  refine X_draw_seq mixed ty_ok Γok Γlive [] (by kernel_rfl) [(3, .n (r.length : Int)), (5, .d (Enc.e e10)), (6, .d (Enc.e e10)), (8, .d (Enc.e e11)), (9, .d (Enc.e e11))] (.cons (len_m Enc.e r) (.cons (idx_m (f := Enc.e) h11) (.cons (idx_m2 (f := Enc.e) h11) (.cons (idx_m (f := Enc.e) h12) (.cons (idx_m2 (f := Enc.e) h12) .nil))))) (by kernel_rfl) ?_
  obtain rfl := some_inj hm
  refine Ok_ret ?_
  repeat (first | refine thR ?_ | refine ibR ?_)
  exact X_fin [] [] (by kernel_rfl) trivial
abbrev i_ExcessWait_r (y : Int × Int × Bool) : AV := .tup [.dat (Enc.e y.1), .dat (Enc.e y.2.1), .dat (Enc.e y.2.2)]
abbrev i_ExcessWait_n (y : Int × Int × Bool) : List Obj' := []
abbrev i_ExcessWait_o (x : (List Visit) × Int) (y : Int × Int × Bool) : List Obj' := []
noncomputable def i_ExcessWait_S : FnSpec := modS [.rd, .rd] (fun x : (List Visit) × Int => [Enc.e x.1, Enc.e x.2]) (fun x : (List Visit) × Int => []) (fun x : (List Visit) × Int => i_ExcessWait x.1 x.2) i_ExcessWait_r i_ExcessWait_n i_ExcessWait_o
theorem i_ExcessWait_c {list : List Visit} {stop : Int} {y : Int × Int × Bool} (h : i_ExcessWait list stop = some y) : CallOK i_ExcessWait_S [Enc.e list, Enc.e stop] [] (i_ExcessWait_r y) (i_ExcessWait_n y) (i_ExcessWait_o (list, stop) y) :=
  modS_call (by
    rintro ⟨a0, a1⟩ ⟨b0, b1⟩ h hO
    have q0 : a0 = b0 := Enc.inj _ _ (congrArg (fun l => List.getD l 0 (.sc undef)) h)
    have q1 : a1 = b1 := Enc.inj _ _ (congrArg (fun l => List.getD l 1 (.sc undef)) h)
    subst q0; subst q1; rfl) (x := (list, stop)) h
theorem i_ExcessWait_ok : FnOK Try.prog 81 i_ExcessWait_S := by
  have Γok : ∀ f S, lookF f [(168, i_IsValidVisits_S), (94, i_within_S), (183, i_visitsAt_S), (184, i_waitOf_w_S), (172, i_fraction_S)] = some S → FnOK Try.prog f S := lookF_ok (allF_cons i_IsValidVisits_ok (allF_cons i_within_ok (allF_cons i_visitsAt_ok (allF_cons i_waitOf_w_ok (allF_cons i_fraction_ok allF_nil)))))
  have Γlive : Live (fun f => lookF f [(168, i_IsValidVisits_S), (94, i_within_S), (183, i_visitsAt_S), (184, i_waitOf_w_S), (172, i_fraction_S)]) := lookF_live (allL_cons modS_live (allL_cons modS_live (allL_cons modS_live (allL_cons modS_live (allL_cons modS_live allL_nil)))))
  refine fnOK_mod ty_ok (fun args w => Try.call81 args w) Try.func81 rfl [.tmp 4, .tmp 5, .tmp 6] (by rw [Try.results81]) 77 Try.ntmps81 16 rfl (fun _ => by first | exact Nat.zero_le _ | (simp)) ?_
  rintro ⟨list, stop⟩ y cx hm hL
  have hm : i_ExcessWait list stop = some y := hm
  have hL : cx.L = 0 := hL
  unfold i_ExcessWait at hm
  refine X_reg_seq ty_ok Γok hL [] .nil (by kernel_rfl) ?_
  refine Ok_seq ?_
  obtain ⟨r, h, hm⟩ := obind hm
  obtain ⟨v, hv, hk⟩ := obind hm
  refine X_join (n := 77) (fun (v : Bool) => (⟨[(0, .dat (Enc.e list)), (1, .dat (.sc (.int .i64 stop))), (23, .dat (.sc (.bool v)))], [], 32⟩ : X)) v ?_ ?_
  · have hm := hv
    rcases btf (!r) with hb | hb
    · have hm := it hb hm
      obtain rfl := some_inj hm
      refine X_reg ty_ok Γok hL [(1, .c (i_IsValidVisits_r r) (i_IsValidVisits_n r) (i_IsValidVisits_o list r)), (3, .b true)] (.cons (i_IsValidVisits_c h) (.cons hb .nil)) (by kernel_rfl) ?_
      exact thN (Wk_J hL ⟨[(0, []), (1, []), (23, [])], [], [], 32⟩ (by kernel_rfl))
    · have hm := ie hb hm
      obtain ⟨r1, h1, hm⟩ := obind hm
      obtain rfl := some_inj hm
      refine X_reg ty_ok Γok hL [(1, .c (i_IsValidVisits_r r) (i_IsValidVisits_n r) (i_IsValidVisits_o list r)), (3, .b false), (5, .c (i_within_r r1) (i_within_n r1) (i_within_o (stop, 0, 7) r1))] (.cons (i_IsValidVisits_c h) (.cons hb (.cons (i_within_c h1) .nil))) (by kernel_rfl) ?_
      exact thN (Wk_J hL ⟨[(0, []), (1, []), (23, [])], [], [], 32⟩ (by kernel_rfl))
  have hm := hk
  refine X_cond v (by kernel_rfl) (fun hc => ?_) (fun hc => ?_)
  · have hm := it hc hm
    refine X_reg_seq ty_ok Γok hL [] .nil (by kernel_rfl) ?_
    obtain rfl := some_inj hm
    refine Ok_ret ?_
    repeat (first | refine thR ?_ | refine ibR ?_)
    exact X_fin [] [] (by kernel_rfl) trivial
  · have hm := ie hc hm
    refine X_skip ?_
    refine thN ?_
    obtain ⟨r2, h2, hm⟩ := obind hm
    refine X_reg_seq ty_ok Γok hL [(2, .c (i_visitsAt_r r2) (i_visitsAt_n r2) (i_visitsAt_o (list, stop) r2))] (.cons (i_visitsAt_c h2) .nil) (by kernel_rfl) ?_
    refine Ok_seq ?_
    refine X_reg_seq ty_ok Γok hL [(1, .n (r2.length : Int))] (.cons (len_m Enc.e r2) .nil) (by kernel_rfl) ?_
    refine X_cond (decide ((r2.length : Int) < 2)) (by kernel_rfl) (fun hc1 => ?_) (fun hc1 => ?_)
    · have hm := it hc1 hm
      refine X_reg_seq ty_ok Γok hL [] .nil (by kernel_rfl) ?_
      obtain rfl := some_inj hm
      refine Ok_ret ?_
      repeat (first | refine thR ?_ | refine ibR ?_)
      exact X_fin [] [] (by kernel_rfl) trivial
    · have hm := ie hc1 hm
      refine X_skip ?_
      refine thN ?_
      refine X_reg_seq ty_ok Γok hL [] .nil (by kernel_rfl) ?_
      refine Ok_seq ?_
      refine X_reg_seq ty_ok Γok hL [(1, .n (r2.length : Int))] (.cons (len_m Enc.e r2) .nil) (by kernel_rfl) ?_
      obtain ⟨vv, hv1, hk1⟩ := obind hm
      refine X_tail (n := 77) (fun ((v4, v5) : (List Int) × (List Int)) => (⟨[(8, .own 16), (9, .own 32)], [(16, some (.arr 3 1 (List.map Enc.e v4))), (32, some (.arr 3 1 (List.map Enc.e v5)))], 64⟩ : X)) vv ?_ ?_
      · have hm := hv1
        refine Ok_block ?_
        refine X_loop (n := 77) (step := i_ExcessWait_L1 r2) (fun ((v1, v2, v3) : Int × (List Int) × (List Int)) => (⟨[(8, .own 16), (9, .own 32), (30, .own 48), (31, .dat (.sc (.int .i64 (r2.length : Int)))), (32, .dat (.sc (.int .i64 v1)))], [(16, some (.arr 3 1 (List.map Enc.e v2))), (32, some (.arr 3 1 (List.map Enc.e v3))), (48, some (.arr 206 4 (List.map Enc.e r2)))], 80⟩ : X)) hm (Wk_J hL ⟨[(8, [.o 16]), (9, [.o 32]), (30, []), (31, []), (32, [])], [(48, 64, [])], [(16, 3, 1, []), (32, 3, 1, [])], 80⟩ (by kernel_rfl)) ?_
        rintro ⟨v1, v2, v3⟩ r0 hm hb1
        rw [i_ExcessWait_L1] at hm
        refine X_reg_seq ty_ok Γok hL [] .nil (by kernel_rfl) ?_
        refine Ok_seq ?_
        refine X_cond (decide (v1 < (r2.length : Int))) (by kernel_rfl) (fun hc2 => ?_) (fun hc2 => ?_)
        · have hm := it hc2 hm
          refine X_skip ?_
          refine thN ?_
          refine Ok_seq ?_
          refine Ok_block ?_
          obtain ⟨e, h3, hm⟩ := obind hm
          refine X_reg_seq ty_ok Γok hL [(0, .d (Enc.e e)), (1, .d (Enc.e e))] (.cons (idx_m (f := Enc.e) h3) (.cons (idx_m2 (f := Enc.e) h3) .nil)) (by kernel_rfl) ?_
          obtain ⟨u2, h6, hm⟩ := obind hm
          obtain ⟨u3, h7, hm⟩ := obind hm
          refine X_draw mixed ty_ok Γok Γlive [(4, [16, 208]), (9, [32, 288])] (by kernel_rfl) [(4, .l (List.map Enc.e (v2 ++ ([e.Planned] : List Int)))), (9, .l (List.map Enc.e (v3 ++ ([e.Actual] : List Int))))] (.cons (app_p (f := Enc.e) (g := Enc.e) (l := v2) (r := ([e.Planned] : List Int)) (b := 8) (chk_t h6) rfl) (.cons (app_m Enc.e v2 ([e.Planned] : List Int)) (.cons (app_p (f := Enc.e) (g := Enc.e) (l := v3) (r := ([e.Actual] : List Int)) (b := 8) (chk_t h7) rfl) (.cons (app_m Enc.e v3 ([e.Actual] : List Int)) .nil)))) (by kernel_rfl) ?_
          refine ibN ?_
          refine thN ?_
          refine X_reg ty_ok Γok hL [] .nil (by kernel_rfl) ?_
          obtain rfl := some_inj hm
          exact thN ⟨_, rfl, Wk_J hL ⟨[(8, []), (9, []), (30, []), (31, []), (32, [])], [(16, 224, []), (32, 304, []), (48, 48, [])], [], 80⟩ (by kernel_rfl)⟩
        · have hm := ie hc2 hm
          obtain rfl := some_inj hm
          obtain rfl := hb1 _ rfl
          refine Ok_exit ?_
          refine thE ?_
          refine thE ?_
          refine ibE ?_
          exact thN (Wk_J hL ⟨[(8, []), (9, [])], [(16, 16, []), (32, 32, [])], [], 64⟩ (by kernel_rfl))
      obtain ⟨v4, v5⟩ := vv
      intro s hw
      have hm := hk1
      refine thN ?_
      refine Ok_weak hw ?_
      obtain ⟨r3, h8, hm⟩ := obind hm
      refine X_reg_seq ty_ok Γok hL [(1, .c (i_waitOf_w_r r3) (i_waitOf_w_n r3) (i_waitOf_w_o v5 r3))] (.cons (i_waitOf_w_c h8) .nil) (by kernel_rfl) ?_
      obtain ⟨r4, h9, hm⟩ := obind hm
      refine X_reg_seq ty_ok Γok hL [(1, .c (i_waitOf_w_r r4) (i_waitOf_w_n r4) (i_waitOf_w_o v4 r4))] (.cons (i_waitOf_w_c h9) .nil) (by kernel_rfl) ?_
      refine Ok_seq ?_
      obtain ⟨v6, hv2, hk2⟩ := obind hm
      refine X_join (n := 77) (fun (v6 : Bool) => (⟨[(12, .dat (.sc (.int .i64 r3.1))), (13, .dat (.sc (.int .i64 r3.2.1))), (14, .dat (.sc (.int .i64 r4.1))), (15, .dat (.sc (.int .i64 r4.2.1))), (62, .dat (.sc (.bool v6)))], [], 32⟩ : X)) v6 ?_ ?_
      · have hm := hv2
        rcases btf (r3.2.1 == 0) with hb2 | hb2
        · have hm := it hb2 hm
          obtain rfl := some_inj hm
          refine X_reg ty_ok Γok hL [(2, .b true)] (.cons hb2 .nil) (by kernel_rfl) ?_
          exact thN (Wk_J hL ⟨[(12, []), (13, []), (14, []), (15, []), (62, [])], [], [], 32⟩ (by kernel_rfl))
        · have hm := ie hb2 hm
          obtain rfl := some_inj hm
          refine X_reg ty_ok Γok hL [(2, .b false)] (.cons hb2 .nil) (by kernel_rfl) ?_
          exact thN (Wk_J hL ⟨[(12, []), (13, []), (14, []), (15, []), (62, [])], [], [], 32⟩ (by kernel_rfl))
      have hm := hk2
      refine X_cond v6 (by kernel_rfl) (fun hc3 => ?_) (fun hc3 => ?_)
      · have hm := it hc3 hm
        refine X_reg_seq ty_ok Γok hL [] .nil (by kernel_rfl) ?_
        obtain rfl := some_inj hm
        refine Ok_ret ?_
        repeat (first | refine thR ?_ | refine ibR ?_)
        exact X_fin [] [] (by kernel_rfl) trivial
      · have hm := ie hc3 hm
        refine X_skip ?_
        refine thN ?_
        obtain ⟨r5, h10, hm⟩ := obind hm
        refine X_reg_seq ty_ok Γok hL [(10, .c (i_fraction_r r5) (i_fraction_n r5) (i_fraction_o ((w64 ((w64 (r3.1 * r4.2.1)) - (w64 (r4.1 * r3.2.1)))), (w64 (r3.2.1 * r4.2.1))) r5))] (.cons (i_fraction_c h10) .nil) (by kernel_rfl) ?_
        obtain rfl := some_inj hm
        refine Ok_ret ?_
        repeat (first | refine thR ?_ | refine ibR ?_)
        exact X_fin [] [] (by kernel_rfl) trivial
abbrev s_l22At_r (y : (List Visit)) : AV := .own 0
abbrev s_l22At_n (y : (List Visit)) : List Obj' := [.arr 206 4 (List.map Enc.e y)]
abbrev s_l22At_o (x : (List Visit) × Int) (y : (List Visit)) : List Obj' := []
noncomputable def s_l22At_S : FnSpec := modS [.rd, .rd] (fun x : (List Visit) × Int => [Enc.e x.1, Enc.e x.2]) (fun x : (List Visit) × Int => []) (fun x : (List Visit) × Int => s_l22At x.1 x.2) s_l22At_r s_l22At_n s_l22At_o
theorem s_l22At_c {list : List Visit} {stop : Int} {y : (List Visit)} (h : s_l22At list stop = some y) : CallOK s_l22At_S [Enc.e list, Enc.e stop] [] (s_l22At_r y) (s_l22At_n y) (s_l22At_o (list, stop) y) :=
  modS_call (by
    rintro ⟨a0, a1⟩ ⟨b0, b1⟩ h hO
    have q0 : a0 = b0 := Enc.inj _ _ (congrArg (fun l => List.getD l 0 (.sc undef)) h)
    have q1 : a1 = b1 := Enc.inj _ _ (congrArg (fun l => List.getD l 1 (.sc undef)) h)
    subst q0; subst q1; rfl) (x := (list, stop)) h
theorem s_l22At_ok : FnOK Try.prog 185 s_l22At_S := by
  have Γok : ∀ f S, lookF f [] = some S → FnOK Try.prog f S := lookF_ok allF_nil
  have Γlive : Live (fun f => lookF f []) := lookF_live allL_nil
  refine fnOK_mod ty_ok (fun args w => Try.call185 args w) Try.func185 rfl [.tmp 4] (by rw [Try.results185]) 29 Try.ntmps185 16 rfl (fun _ => by first | exact Nat.zero_le _ | (simp)) ?_
  rintro ⟨list, stop⟩ y cx hm hL
  have hm : s_l22At list stop = some y := hm
  have hL : cx.L = 0 := hL
  unfold s_l22At at hm
  refine X_reg_seq ty_ok Γok hL [] .nil (by kernel_rfl) ?_
  refine X_reg_seq ty_ok Γok hL [] .nil (by kernel_rfl) ?_
  refine Ok_seq ?_
  refine X_reg_seq ty_ok Γok hL [] .nil (by kernel_rfl) ?_
  obtain ⟨v3, hv1, hk1⟩ := obind hm
  refine X_tail (n := 29) (fun (v3 : List Visit) => (⟨[(5, .own 16)], [(16, some (.arr 206 4 (List.map Enc.e v3)))], 48⟩ : X)) v3 ?_ ?_
  · have hm := hv1
    refine Ok_block ?_
    refine X_loop (n := 29) (step := s_l22At_L1 list stop) (fun ((v, v1) : Int × (List Visit)) => (⟨[(0, .dat (Enc.e list)), (1, .dat (.sc (.int .i64 stop))), (5, .own 16), (6, .dat (.sc (.int .i64 v)))], [(16, some (.arr 206 4 (List.map Enc.e v1)))], 48⟩ : X)) hm (Wk_J hL ⟨[(0, []), (1, []), (5, []), (6, [])], [(16, 32, [])], [], 48⟩ (by kernel_rfl)) ?_
    rintro ⟨v, v1⟩ r0 hm hb
    rw [s_l22At_L1] at hm
    refine Ok_seq ?_
    refine X_reg_seq ty_ok Γok hL [(2, .n (list.length : Int))] (.cons (len_m Enc.e list) .nil) (by kernel_rfl) ?_
    refine X_cond (decide (v < (list.length : Int))) (by kernel_rfl) (fun hc => ?_) (fun hc => ?_)
    · have hm := it hc hm
      refine X_skip ?_
      refine thN ?_
      obtain ⟨v2, hv, hk⟩ := obind hm
      refine X_join (n := 29) (fun (v2 : List Visit) => (⟨[(0, .dat (Enc.e list)), (1, .dat (.sc (.int .i64 stop))), (5, .own 16), (6, .dat (.sc (.int .i64 v)))], [(16, some (.arr 206 4 (List.map Enc.e v2)))], 48⟩ : X)) v2 ?_ ?_
      · have hm := hv
        refine Ok_block ?_
        obtain ⟨e, h, hm⟩ := obind hm
        refine X_reg_seq ty_ok Γok hL [(2, .d (Enc.e e))] (.cons (idx_m (f := Enc.e) h) .nil) (by kernel_rfl) ?_
        refine X_cond (e.Stop == stop) (by kernel_rfl) (fun hc1 => ?_) (fun hc1 => ?_)
        · have hm := it hc1 hm
          obtain ⟨e1, h1, hm⟩ := obind hm
          obtain ⟨u, h2, hm⟩ := obind hm
          refine X_reg ty_ok Γok hL [(3, .d (Enc.e e1)), (6, .l (List.map Enc.e (v1 ++ ([e1] : List Visit))))] (.cons (idx_m (f := Enc.e) h1) (.cons (app_p (f := Enc.e) (g := Enc.e) (l := v1) (r := ([e1] : List Visit)) (b := 32) (chk_t h2) rfl) (.cons (app_m Enc.e v1 ([e1] : List Visit)) .nil))) (by kernel_rfl) ?_
          refine ibN ?_
          obtain rfl := some_inj hm
          exact thN (Wk_J hL ⟨[(0, []), (1, []), (5, []), (6, [])], [(16, 320, [])], [], 48⟩ (by kernel_rfl))
        · have hm := ie hc1 hm
          refine X_skip ?_
          refine ibN ?_
          obtain rfl := some_inj hm
          exact thN (Wk_J hL ⟨[(0, []), (1, []), (5, []), (6, [])], [(16, 16, [])], [], 48⟩ (by kernel_rfl))
      have hm := hk
      refine X_reg ty_ok Γok hL [] .nil (by kernel_rfl) ?_
      obtain rfl := some_inj hm
      exact thN ⟨_, rfl, Wk_J hL ⟨[(0, []), (1, []), (5, []), (6, [])], [(16, 16, [])], [], 48⟩ (by kernel_rfl)⟩
    · have hm := ie hc hm
      obtain rfl := some_inj hm
      obtain rfl := hb _ rfl
      refine Ok_exit ?_
      refine thE ?_
      refine thE ?_
      refine ibE ?_
      exact thN (Wk_J hL ⟨[(5, [])], [(16, 16, [])], [], 48⟩ (by kernel_rfl))
  intro s hw
  have hm := hk1
  refine thN ?_
  refine Ok_weak hw ?_
  refine X_reg_seq ty_ok Γok hL [] .nil (by kernel_rfl) ?_
  obtain rfl := some_inj hm
  refine Ok_ret ?_
  repeat (first | refine thR ?_ | refine ibR ?_)
  exact X_fin [16] [] (by kernel_rfl) trivial
abbrev s_l22Wait_r (y : Int × Int) : AV := .tup [.dat (Enc.e y.1), .dat (Enc.e y.2)]
abbrev s_l22Wait_n (y : Int × Int) : List Obj' := []
abbrev s_l22Wait_o (x : (List Int)) (y : Int × Int) : List Obj' := []
noncomputable def s_l22Wait_S : FnSpec := modS [.rd] (fun x : (List Int) => [Enc.e x]) (fun x : (List Int) => []) (fun x : (List Int) => s_l22Wait x) s_l22Wait_r s_l22Wait_n s_l22Wait_o
theorem s_l22Wait_c {times : List Int} {y : Int × Int} (h : s_l22Wait times = some y) : CallOK s_l22Wait_S [Enc.e times] [] (s_l22Wait_r y) (s_l22Wait_n y) (s_l22Wait_o times y) :=
  modS_call (by
    rintro a0 b0 h hO
    have q0 : a0 = b0 := Enc.inj _ _ (congrArg (fun l => List.getD l 0 (.sc undef)) h)
    subst q0; rfl) (x := times) h
theorem s_l22Wait_ok : FnOK Try.prog 186 s_l22Wait_S := by
  have Γok : ∀ f S, lookF f [] = some S → FnOK Try.prog f S := lookF_ok allF_nil
  have Γlive : Live (fun f => lookF f []) := lookF_live allL_nil
  refine fnOK_mod ty_ok (fun args w => Try.call186 args w) Try.func186 rfl [.tmp 2, .tmp 3] (by rw [Try.results186]) 82 Try.ntmps186 16 rfl (fun _ => by first | exact Nat.zero_le _ | (simp)) ?_
  rintro times y cx hm hL
  have hm : s_l22Wait times = some y := hm
  have hL : cx.L = 0 := hL
  unfold s_l22Wait at hm
  refine X_reg_seq ty_ok Γok hL [] .nil (by kernel_rfl) ?_
  refine X_reg_seq ty_ok Γok hL [] .nil (by kernel_rfl) ?_
  refine Ok_seq ?_
  refine X_reg_seq ty_ok Γok hL [] .nil (by kernel_rfl) ?_
  obtain ⟨i1, hv2, hk2⟩ := obind hm
  refine X_tail (n := 82) (fun (i1 : List Int) => (⟨[(4, .own 16)], [(16, some (.arr 3 1 (List.map Enc.e i1)))], 48⟩ : X)) i1 ?_ ?_
  · have hm := hv2
    refine Ok_block ?_
    refine X_loop (n := 82) (step := s_l22Wait_L2 times) (fun ((k, i) : Int × (List Int)) => (⟨[(0, .dat (Enc.e times)), (4, .own 16), (5, .dat (.sc (.int .i64 k)))], [(16, some (.arr 3 1 (List.map Enc.e i)))], 48⟩ : X)) hm (Wk_J hL ⟨[(0, []), (4, []), (5, [])], [(16, 48, [])], [], 48⟩ (by kernel_rfl)) ?_
    rintro ⟨k, i⟩ r0 hm hb
    rw [s_l22Wait_L2] at hm
    refine Ok_seq ?_
    refine X_reg_seq ty_ok Γok hL [(2, .n (times.length : Int))] (.cons (len_m Enc.e times) .nil) (by kernel_rfl) ?_
    refine X_cond (decide (k < (times.length : Int))) (by kernel_rfl) (fun hc => ?_) (fun hc => ?_)
    · have hm := it hc hm
      refine X_skip ?_
      refine thN ?_
      refine Ok_seq ?_
      refine Ok_block ?_
      refine X_reg_seq ty_ok Γok hL [(1, .n (i.length : Int))] (.cons (len_m Enc.e i) .nil) (by kernel_rfl) ?_
      obtain ⟨sum1, hv1, hk1⟩ := obind hm
      refine X_join (n := 82) (fun (sum1 : Int) => (⟨[(0, .dat (Enc.e times)), (4, .own 16), (5, .dat (.sc (.int .i64 k))), (6, .dat (.sc (.int .i64 sum1)))], [(16, some (.arr 3 1 (List.map Enc.e i)))], 48⟩ : X)) sum1 ?_ ?_
      · have hm := hv1
        refine Ok_block ?_
        refine X_loop (n := 82) (step := s_l22Wait_L1 times k i) (fun (sum : Int) => (⟨[(0, .dat (Enc.e times)), (4, .own 16), (5, .dat (.sc (.int .i64 k))), (6, .dat (.sc (.int .i64 sum)))], [(16, some (.arr 3 1 (List.map Enc.e i)))], 48⟩ : X)) hm (Wk_J hL ⟨[(0, []), (4, []), (5, []), (6, [])], [(16, 16, [])], [], 48⟩ (by kernel_rfl)) ?_
        rintro sum r0 hm hb1
        rw [s_l22Wait_L1] at hm
        refine Ok_seq ?_
        obtain ⟨v, hv, hk⟩ := obind hm
        refine X_join (n := 82) (fun (v : Bool) => (⟨[(0, .dat (Enc.e times)), (4, .own 16), (5, .dat (.sc (.int .i64 k))), (6, .dat (.sc (.int .i64 sum))), (32, .dat (.sc (.bool v)))], [(16, some (.arr 3 1 (List.map Enc.e i)))], 48⟩ : X)) v ?_ ?_
        · have hm := hv
          rcases btf (decide (0 < sum)) with hb2 | hb2
          · have hm := it hb2 hm
            obtain ⟨e2, h2, hm⟩ := obind hm
            obtain ⟨e3, h3, hm⟩ := obind hm
            obtain rfl := some_inj hm
            refine X_draw mixed ty_ok Γok Γlive [] (by kernel_rfl) [(2, .b true), (6, .d (Enc.e e2)), (7, .d (Enc.e e2)), (10, .d (Enc.e e3))] (.cons hb2 (.cons (idx_m (f := Enc.e) h2) (.cons (idx_m2 (f := Enc.e) h2) (.cons (idx_m (f := Enc.e) h3) .nil)))) (by kernel_rfl) ?_
            exact thN (Wk_J hL ⟨[(0, []), (4, []), (5, []), (6, []), (32, [])], [(16, 16, [])], [], 48⟩ (by kernel_rfl))
          · have hm := ie hb2 hm
            obtain rfl := some_inj hm
            refine X_draw mixed ty_ok Γok Γlive [] (by kernel_rfl) [(2, .b false)] (.cons hb2 .nil) (by kernel_rfl) ?_
            exact thN (Wk_J hL ⟨[(0, []), (4, []), (5, []), (6, []), (32, [])], [(16, 16, [])], [], 48⟩ (by kernel_rfl))
        have hm := hk
        refine X_cond v (by kernel_rfl) (fun hc1 => ?_) (fun hc1 => ?_)
        · have hm := it hc1 hm
          refine X_skip ?_
          refine thN ?_
          refine Ok_block ?_
          refine X_reg ty_ok Γok hL [] .nil (by kernel_rfl) ?_
          refine ibN ?_
          obtain rfl := some_inj hm
          exact thN ⟨_, rfl, Wk_J hL ⟨[(0, []), (4, []), (5, []), (6, [])], [(16, 16, [])], [], 48⟩ (by kernel_rfl)⟩
        · have hm := ie hc1 hm
          obtain rfl := some_inj hm
          obtain rfl := hb1 _ rfl
          refine Ok_exit ?_
          refine thE ?_
          refine thE ?_
          refine ibE ?_
          exact thN (Wk_J hL ⟨[(0, []), (4, []), (5, []), (6, [])], [(16, 16, [])], [], 48⟩ (by kernel_rfl))
      have hm := hk1
      refine Ok_weak (Wk_J (x' := (⟨[(0, .dat (Enc.e times)), (4, .dat (Enc.e i)), (5, .dat (.sc (.int .i64 k))), (6, .dat (.sc (.int .i64 sum1)))], [], 32⟩ : X)) hL ⟨[(0, []), (4, []), (5, []), (6, [])], [], [], 32⟩ (by kernel_rfl)) ?_
      obtain ⟨u5, h10, hm⟩ := obind hm
      obtain ⟨u6, h11, hm⟩ := obind hm
      obtain ⟨e5, h12, hm⟩ := obind hm
      obtain ⟨u7, h13, hm⟩ := obind hm
      obtain ⟨u8, h14, hm⟩ := obind hm
      obtain ⟨u9, h15, hm⟩ := obind hm
      refine X_draw mixed ty_ok Γok Γlive [(3, []), (4, [32]), (10, [96, 176]), (13, []), (14, [192])] (by kernel_rfl) [(3, .l (List.map Enc.e ((i.take sum1.toNat).drop (0 : Int).toNat))), (4, .l (List.map Enc.e (([] : List Int) ++ ((i.take sum1.toNat).drop (0 : Int).toNat)))), (7, .d (Enc.e e5)), (10, .l (List.map Enc.e ((([] : List Int) ++ ((i.take sum1.toNat).drop (0 : Int).toNat)) ++ ([e5] : List Int)))), (13, .l (List.map Enc.e (i.drop sum1.toNat))), (14, .l (List.map Enc.e (((([] : List Int) ++ ((i.take sum1.toNat).drop (0 : Int).toNat)) ++ ([e5] : List Int)) ++ (i.drop sum1.toNat))))] (.cons (cut_p (f := Enc.e) (l := i) (lo := 0) (hi := sum1) (chk_t h10)) (.cons (cut_m Enc.e i (0 : Int).toNat sum1.toNat) (.cons (app_p (f := Enc.e) (g := Enc.e) (l := ([] : List Int)) (r := ((i.take sum1.toNat).drop (0 : Int).toNat)) (b := 8) (chk_t h11) rfl) (.cons (app_m Enc.e ([] : List Int) ((i.take sum1.toNat).drop (0 : Int).toNat)) (.cons (idx_m (f := Enc.e) h12) (.cons (app_p (f := Enc.e) (g := Enc.e) (l := (([] : List Int) ++ ((i.take sum1.toNat).drop (0 : Int).toNat))) (r := ([e5] : List Int)) (b := 8) (chk_t h13) rfl) (.cons (app_m Enc.e (([] : List Int) ++ ((i.take sum1.toNat).drop (0 : Int).toNat)) ([e5] : List Int)) (.cons (drp_p (f := Enc.e) (l := i) (lo := sum1) (chk_t h14)) (.cons (drop_m Enc.e i sum1.toNat) (.cons (app_p (f := Enc.e) (g := Enc.e) (l := ((([] : List Int) ++ ((i.take sum1.toNat).drop (0 : Int).toNat)) ++ ([e5] : List Int))) (r := (i.drop sum1.toNat)) (b := 8) (chk_t h15) rfl) (.cons (app_m Enc.e ((([] : List Int) ++ ((i.take sum1.toNat).drop (0 : Int).toNat)) ++ ([e5] : List Int)) (i.drop sum1.toNat)) .nil))))))))))) (by kernel_rfl) ?_
      refine ibN ?_
      refine thN ?_
      refine X_reg ty_ok Γok hL [] .nil (by kernel_rfl) ?_
      obtain rfl := some_inj hm
      exact thN ⟨_, rfl, Wk_J hL ⟨[(0, []), (4, []), (5, [])], [(16, 256, [])], [], 48⟩ (by kernel_rfl)⟩
    · have hm := ie hc hm
      obtain rfl := some_inj hm
      obtain rfl := hb _ rfl
      refine Ok_exit ?_
      refine thE ?_
      refine thE ?_
      refine ibE ?_
      exact thN (Wk_J hL ⟨[(4, [])], [(16, 16, [])], [], 48⟩ (by kernel_rfl))
  intro s hw
  have hm := hk2
  refine thN ?_
  refine Ok_weak hw ?_
  refine X_reg_seq ty_ok Γok hL [] .nil (by kernel_rfl) ?_
  refine Ok_seq ?_
  refine X_reg_seq ty_ok Γok hL [] .nil (by kernel_rfl) ?_
  obtain ⟨i3, hv3, hk3⟩ := obind hm
  refine X_tail (n := 82) (fun (i3 : Int) => (⟨[(4, .own 16), (7, .dat (.sc (.int .i64 i3)))], [(16, some (.arr 3 1 (List.map Enc.e i1)))], 48⟩ : X)) i3 ?_ ?_
  · have hm := hv3
    refine Ok_block ?_
    refine X_loop (n := 82) (step := s_l22Wait_L3 i1) (fun ((i2, d) : Int × Int) => (⟨[(4, .own 16), (7, .dat (.sc (.int .i64 i2))), (8, .dat (.sc (.int .i64 d)))], [(16, some (.arr 3 1 (List.map Enc.e i1)))], 48⟩ : X)) hm (Wk_J hL ⟨[(4, []), (7, []), (8, [])], [(16, 16, [])], [], 48⟩ (by kernel_rfl)) ?_
    rintro ⟨i2, d⟩ r0 hm hb3
    rw [s_l22Wait_L3] at hm
    refine Ok_seq ?_
    refine X_reg_seq ty_ok Γok hL [(2, .n (i1.length : Int))] (.cons (len_m Enc.e i1) .nil) (by kernel_rfl) ?_
    refine X_cond (decide (d < (i1.length : Int))) (by kernel_rfl) (fun hc2 => ?_) (fun hc2 => ?_)
    · have hm := it hc2 hm
      refine X_skip ?_
      refine thN ?_
      refine Ok_seq ?_
      refine Ok_block ?_
      obtain ⟨e8, h18, hm⟩ := obind hm
      obtain ⟨e9, h19, hm⟩ := obind hm
      refine X_draw_seq mixed ty_ok Γok Γlive [] (by kernel_rfl) [(2, .d (Enc.e e8)), (3, .d (Enc.e e8)), (7, .d (Enc.e e9)), (8, .d (Enc.e e9))] (.cons (idx_m (f := Enc.e) h18) (.cons (idx_m2 (f := Enc.e) h18) (.cons (idx_m (f := Enc.e) h19) (.cons (idx_m2 (f := Enc.e) h19) .nil)))) (by kernel_rfl) ?_
      refine X_reg ty_ok Γok hL [] .nil (by kernel_rfl) ?_
      refine ibN ?_
      refine thN ?_
      refine X_reg ty_ok Γok hL [] .nil (by kernel_rfl) ?_
      obtain rfl := some_inj hm
      exact thN ⟨_, rfl, Wk_J hL ⟨[(4, []), (7, []), (8, [])], [(16, 16, [])], [], 48⟩ (by kernel_rfl)⟩
    · have hm := ie hc2 hm
      obtain rfl := some_inj hm
      obtain rfl := hb3 _ rfl
      refine Ok_exit ?_
      refine thE ?_
      refine thE ?_
      refine ibE ?_
      exact thN (Wk_J hL ⟨[(4, []), (7, [])], [(16, 16, [])], [], 48⟩ (by kernel_rfl))
  intro s1 hw1
  have hm := hk3
  refine thN ?_
  refine Ok_weak hw1 ?_
  obtain ⟨e12, h22, hm⟩ := obind hm
  obtain ⟨e13, h23, hm⟩ := obind hm
  refine X_draw_seq mixed ty_ok Γok Γlive [] (by kernel_rfl) [(3, .n (i1.length : Int)), (5, .d (Enc.e e12)), (6, .d (Enc.e e12)), (8, .d (Enc.e e13)), (9, .d (Enc.e e13))] (.cons (len_m Enc.e i1) (.cons (idx_m (f := Enc.e) h22) (.cons (idx_m2 (f := Enc.e) h22) (.cons (idx_m (f := Enc.e) h23) (.cons (idx_m2 (f := Enc.e) h23) .nil))))) (by kernel_rfl) ?_
  obtain rfl := some_inj hm
  refine Ok_ret ?_
  repeat (first | refine thR ?_ | refine ibR ?_)
  exact X_fin [] [] (by kernel_rfl) trivial
abbrev s_l22Reduce_r (y : Int × Int) : AV := .tup [.dat (Enc.e y.1), .dat (Enc.e y.2)]
abbrev s_l22Reduce_n (y : Int × Int) : List Obj' := []
abbrev s_l22Reduce_o (x : Int × Int) (y : Int × Int) : List Obj' := []
noncomputable def s_l22Reduce_S : FnSpec := modS [.rd, .rd] (fun x : Int × Int => [Enc.e x.1, Enc.e x.2]) (fun x : Int × Int => []) (fun x : Int × Int => s_l22Reduce x.1 x.2) s_l22Reduce_r s_l22Reduce_n s_l22Reduce_o
theorem s_l22Reduce_c {num : Int} {den : Int} {y : Int × Int} (h : s_l22Reduce num den = some y) : CallOK s_l22Reduce_S [Enc.e num, Enc.e den] [] (s_l22Reduce_r y) (s_l22Reduce_n y) (s_l22Reduce_o (num, den) y) :=
  modS_call (by
    rintro ⟨a0, a1⟩ ⟨b0, b1⟩ h hO
    have q0 : a0 = b0 := Enc.inj _ _ (congrArg (fun l => List.getD l 0 (.sc undef)) h)
    have q1 : a1 = b1 := Enc.inj _ _ (congrArg (fun l => List.getD l 1 (.sc undef)) h)
    subst q0; subst q1; rfl) (x := (num, den)) h
theorem s_l22Reduce_ok : FnOK Try.prog 187 s_l22Reduce_S := by
  have Γok : ∀ f S, lookF f [(181, s_l1Most_S)] = some S → FnOK Try.prog f S := lookF_ok (allF_cons s_l1Most_ok allF_nil)
  have Γlive : Live (fun f => lookF f [(181, s_l1Most_S)]) := lookF_live (allL_cons modS_live allL_nil)
  refine fnOK_mod ty_ok (fun args w => Try.call187 args w) Try.func187 rfl [.tmp 4, .tmp 5] (by rw [Try.results187]) 27 Try.ntmps187 16 rfl (fun _ => by first | exact Nat.zero_le _ | (simp)) ?_
  rintro ⟨num, den⟩ y cx hm hL
  have hm : s_l22Reduce num den = some y := hm
  have hL : cx.L = 0 := hL
  unfold s_l22Reduce at hm
  refine X_reg_seq ty_ok Γok hL [] .nil (by kernel_rfl) ?_
  obtain ⟨r, h, hm⟩ := obind hm
  refine X_reg_seq ty_ok Γok hL [(3, .c (s_l1Most_r r) (s_l1Most_n r) (s_l1Most_o (num, (w64 (0 - num))) r))] (.cons (s_l1Most_c h) .nil) (by kernel_rfl) ?_
  obtain ⟨r2, hv, hk⟩ := obind hm
  refine X_join (n := 27) (fun (r2 : Int) => (⟨[(0, .dat (.sc (.int .i64 num))), (1, .dat (.sc (.int .i64 den))), (6, .dat (.sc (.int .i64 r2)))], [], 32⟩ : X)) r2 ?_ ?_
  · have hm := hv
    refine Ok_block ?_
    refine X_loop (n := 27) (step := s_l22Reduce_L1) (fun ((r1, v) : Int × Int) => (⟨[(0, .dat (.sc (.int .i64 num))), (1, .dat (.sc (.int .i64 den))), (6, .dat (.sc (.int .i64 r1))), (7, .dat (.sc (.int .i64 v)))], [], 32⟩ : X)) hm (Wk_J hL ⟨[(0, []), (1, []), (6, []), (7, [])], [], [], 32⟩ (by kernel_rfl)) ?_
    rintro ⟨r1, v⟩ r0 hm hb
    rw [s_l22Reduce_L1] at hm
    refine Ok_seq ?_
    refine X_reg_seq ty_ok Γok hL [] .nil (by kernel_rfl) ?_
    refine X_cond (v != 0) (by kernel_rfl) (fun hc => ?_) (fun hc => ?_)
    · have hm := it hc hm
      refine X_skip ?_
      refine thN ?_
      refine Ok_block ?_
      obtain ⟨u, h1, hm⟩ := obind hm
      refine X_reg_seq ty_ok Γok hL [] (.cons (chk_t h1) .nil) (by kernel_rfl) ?_
      refine X_reg_seq ty_ok Γok hL [] .nil (by kernel_rfl) ?_
      refine X_reg ty_ok Γok hL [] .nil (by kernel_rfl) ?_
      refine ibN ?_
      obtain rfl := some_inj hm
      exact thN ⟨_, rfl, Wk_J hL ⟨[(0, []), (1, []), (6, []), (7, [])], [], [], 32⟩ (by kernel_rfl)⟩
    · have hm := ie hc hm
      obtain rfl := some_inj hm
      obtain rfl := hb _ rfl
      refine Ok_exit ?_
      refine thE ?_
      refine thE ?_
      refine ibE ?_
      exact thN (Wk_J hL ⟨[(0, []), (1, []), (6, [])], [], [], 32⟩ (by kernel_rfl))
  have hm := hk
  obtain ⟨u3, h4, hm⟩ := obind hm
  obtain ⟨u4, h5, hm⟩ := obind hm
  refine X_draw_seq mixed ty_ok Γok Γlive [] (by kernel_rfl) [] (.cons (chk_t h4) (.cons (chk_t h5) .nil)) (by kernel_rfl) ?_
  obtain rfl := some_inj hm
  refine Ok_ret ?_
  repeat (first | refine thR ?_ | refine ibR ?_)
  exact X_fin [] [] (by kernel_rfl) trivial
abbrev s_ExcessWait_r (y : Int × Int × Bool) : AV := .tup [.dat (Enc.e y.1), .dat (Enc.e y.2.1), .dat (Enc.e y.2.2)]
abbrev s_ExcessWait_n (y : Int × Int × Bool) : List Obj' := []
abbrev s_ExcessWait_o (x : (List Visit) × Int) (y : Int × Int × Bool) : List Obj' := []
noncomputable def s_ExcessWait_S : FnSpec := modS [.rd, .rd] (fun x : (List Visit) × Int => [Enc.e x.1, Enc.e x.2]) (fun x : (List Visit) × Int => []) (fun x : (List Visit) × Int => s_ExcessWait x.1 x.2) s_ExcessWait_r s_ExcessWait_n s_ExcessWait_o
theorem s_ExcessWait_c {list : List Visit} {stop : Int} {y : Int × Int × Bool} (h : s_ExcessWait list stop = some y) : CallOK s_ExcessWait_S [Enc.e list, Enc.e stop] [] (s_ExcessWait_r y) (s_ExcessWait_n y) (s_ExcessWait_o (list, stop) y) :=
  modS_call (by
    rintro ⟨a0, a1⟩ ⟨b0, b1⟩ h hO
    have q0 : a0 = b0 := Enc.inj _ _ (congrArg (fun l => List.getD l 0 (.sc undef)) h)
    have q1 : a1 = b1 := Enc.inj _ _ (congrArg (fun l => List.getD l 1 (.sc undef)) h)
    subst q0; subst q1; rfl) (x := (list, stop)) h
theorem s_ExcessWait_ok : FnOK Try.prog 82 s_ExcessWait_S := by
  have Γok : ∀ f S, lookF f [(170, s_l22Good_S), (88, s_l1In_S), (185, s_l22At_S), (186, s_l22Wait_S), (187, s_l22Reduce_S)] = some S → FnOK Try.prog f S := lookF_ok (allF_cons s_l22Good_ok (allF_cons s_l1In_ok (allF_cons s_l22At_ok (allF_cons s_l22Wait_ok (allF_cons s_l22Reduce_ok allF_nil)))))
  have Γlive : Live (fun f => lookF f [(170, s_l22Good_S), (88, s_l1In_S), (185, s_l22At_S), (186, s_l22Wait_S), (187, s_l22Reduce_S)]) := lookF_live (allL_cons modS_live (allL_cons modS_live (allL_cons modS_live (allL_cons modS_live (allL_cons modS_live allL_nil)))))
  refine fnOK_mod ty_ok (fun args w => Try.call82 args w) Try.func82 rfl [.tmp 4, .tmp 5, .tmp 6] (by rw [Try.results82]) 88 Try.ntmps82 16 rfl (fun _ => by first | exact Nat.zero_le _ | (simp)) ?_
  rintro ⟨list, stop⟩ y cx hm hL
  have hm : s_ExcessWait list stop = some y := hm
  have hL : cx.L = 0 := hL
  unfold s_ExcessWait at hm
  refine X_reg_seq ty_ok Γok hL [] .nil (by kernel_rfl) ?_
  refine Ok_seq ?_
  obtain ⟨r, h, hm⟩ := obind hm
  obtain ⟨v, hv, hk⟩ := obind hm
  refine X_join (n := 88) (fun (v : Bool) => (⟨[(0, .dat (Enc.e list)), (1, .dat (.sc (.int .i64 stop))), (24, .dat (.sc (.bool v)))], [], 32⟩ : X)) v ?_ ?_
  · have hm := hv
    rcases btf (!r) with hb | hb
    · have hm := it hb hm
      obtain rfl := some_inj hm
      refine X_reg ty_ok Γok hL [(1, .c (s_l22Good_r r) (s_l22Good_n r) (s_l22Good_o list r)), (3, .b true)] (.cons (s_l22Good_c h) (.cons hb .nil)) (by kernel_rfl) ?_
      exact thN (Wk_J hL ⟨[(0, []), (1, []), (24, [])], [], [], 32⟩ (by kernel_rfl))
    · have hm := ie hb hm
      obtain ⟨r1, h1, hm⟩ := obind hm
      obtain rfl := some_inj hm
      refine X_reg ty_ok Γok hL [(1, .c (s_l22Good_r r) (s_l22Good_n r) (s_l22Good_o list r)), (3, .b false), (5, .c (s_l1In_r r1) (s_l1In_n r1) (s_l1In_o (stop, 0, 7) r1))] (.cons (s_l22Good_c h) (.cons hb (.cons (s_l1In_c h1) .nil))) (by kernel_rfl) ?_
      exact thN (Wk_J hL ⟨[(0, []), (1, []), (24, [])], [], [], 32⟩ (by kernel_rfl))
  have hm := hk
  refine X_cond v (by kernel_rfl) (fun hc => ?_) (fun hc => ?_)
  · have hm := it hc hm
    refine X_reg_seq ty_ok Γok hL [] .nil (by kernel_rfl) ?_
    obtain rfl := some_inj hm
    refine Ok_ret ?_
    repeat (first | refine thR ?_ | refine ibR ?_)
    exact X_fin [] [] (by kernel_rfl) trivial
  · have hm := ie hc hm
    refine X_skip ?_
    refine thN ?_
    obtain ⟨r2, h2, hm⟩ := obind hm
    refine X_reg_seq ty_ok Γok hL [(2, .c (s_l22At_r r2) (s_l22At_n r2) (s_l22At_o (list, stop) r2))] (.cons (s_l22At_c h2) .nil) (by kernel_rfl) ?_
    refine X_reg_seq ty_ok Γok hL [] .nil (by kernel_rfl) ?_
    refine Ok_seq ?_
    refine X_reg_seq ty_ok Γok hL [] .nil (by kernel_rfl) ?_
    obtain ⟨vv, hv1, hk1⟩ := obind hm
    refine X_tail (n := 88) (fun ((i1, a1) : (List Int) × (List Int)) => (⟨[(7, .own 16), (8, .own 32), (9, .own 48)], [(16, some (.arr 206 4 (List.map Enc.e r2))), (32, some (.arr 3 1 (List.map Enc.e i1))), (48, some (.arr 3 1 (List.map Enc.e a1)))], 80⟩ : X)) vv ?_ ?_
    · have hm := hv1
      refine Ok_block ?_
      refine X_loop (n := 88) (step := s_ExcessWait_L1 r2) (fun ((x, i, a) : Int × (List Int) × (List Int)) => (⟨[(7, .own 16), (8, .own 32), (9, .own 48), (10, .dat (.sc (.int .i64 x)))], [(16, some (.arr 206 4 (List.map Enc.e r2))), (32, some (.arr 3 1 (List.map Enc.e i))), (48, some (.arr 3 1 (List.map Enc.e a)))], 80⟩ : X)) hm (Wk_J hL ⟨[(7, []), (8, []), (9, []), (10, [])], [(16, 64, []), (32, 96, []), (48, 112, [])], [], 80⟩ (by kernel_rfl)) ?_
      rintro ⟨x, i, a⟩ r0 hm hb1
      rw [s_ExcessWait_L1] at hm
      refine Ok_seq ?_
      refine X_reg_seq ty_ok Γok hL [(2, .n (r2.length : Int))] (.cons (len_m Enc.e r2) .nil) (by kernel_rfl) ?_
      refine X_cond (decide (x < (r2.length : Int))) (by kernel_rfl) (fun hc1 => ?_) (fun hc1 => ?_)
      · have hm := it hc1 hm
        refine X_skip ?_
        refine thN ?_
        refine Ok_seq ?_
        refine Ok_block ?_
        obtain ⟨e, h3, hm⟩ := obind hm
        obtain ⟨u, h4, hm⟩ := obind hm
        refine X_reg_seq ty_ok Γok hL [(3, .d (Enc.e e)), (5, .d (Enc.e e)), (7, .l (List.map Enc.e (i ++ ([e.Planned] : List Int))))] (.cons (idx_m (f := Enc.e) h3) (.cons (idx_m2 (f := Enc.e) h3) (.cons (app_p (f := Enc.e) (g := Enc.e) (l := i) (r := ([e.Planned] : List Int)) (b := 8) (chk_t h4) rfl) (.cons (app_m Enc.e i ([e.Planned] : List Int)) .nil)))) (by kernel_rfl) ?_
        obtain ⟨e1, h5, hm⟩ := obind hm
        obtain ⟨u1, h6, hm⟩ := obind hm
        refine X_reg ty_ok Γok hL [(3, .d (Enc.e e1)), (5, .d (Enc.e e1)), (7, .l (List.map Enc.e (a ++ ([e1.Actual] : List Int))))] (.cons (idx_m (f := Enc.e) h5) (.cons (idx_m2 (f := Enc.e) h5) (.cons (app_p (f := Enc.e) (g := Enc.e) (l := a) (r := ([e1.Actual] : List Int)) (b := 8) (chk_t h6) rfl) (.cons (app_m Enc.e a ([e1.Actual] : List Int)) .nil)))) (by kernel_rfl) ?_
        refine ibN ?_
        refine thN ?_
        refine X_reg ty_ok Γok hL [] .nil (by kernel_rfl) ?_
        obtain rfl := some_inj hm
        exact thN ⟨_, rfl, Wk_J hL ⟨[(7, []), (8, []), (9, []), (10, [])], [(16, 16, []), (32, 256, []), (48, 400, [])], [], 80⟩ (by kernel_rfl)⟩
      · have hm := ie hc1 hm
        obtain rfl := some_inj hm
        obtain rfl := hb1 _ rfl
        refine Ok_exit ?_
        refine thE ?_
        refine thE ?_
        refine ibE ?_
        exact thN (Wk_J hL ⟨[(7, []), (8, []), (9, [])], [(16, 16, []), (32, 32, []), (48, 48, [])], [], 80⟩ (by kernel_rfl))
    obtain ⟨i1, a1⟩ := vv
    intro s hw
    have hm := hk1
    refine thN ?_
    refine Ok_weak hw ?_
    refine Ok_seq ?_
    refine X_reg_seq ty_ok Γok hL [(1, .n (r2.length : Int))] (.cons (len_m Enc.e r2) .nil) (by kernel_rfl) ?_
    refine X_cond (decide ((r2.length : Int) < 2)) (by kernel_rfl) (fun hc2 => ?_) (fun hc2 => ?_)
    · have hm := it hc2 hm
      refine X_reg_seq ty_ok Γok hL [] .nil (by kernel_rfl) ?_
      obtain rfl := some_inj hm
      refine Ok_ret ?_
      repeat (first | refine thR ?_ | refine ibR ?_)
      exact X_fin [] [] (by kernel_rfl) trivial
    · have hm := ie hc2 hm
      refine X_skip ?_
      refine thN ?_
      obtain ⟨r3, h7, hm⟩ := obind hm
      refine X_reg_seq ty_ok Γok hL [(1, .c (s_l22Wait_r r3) (s_l22Wait_n r3) (s_l22Wait_o a1 r3))] (.cons (s_l22Wait_c h7) .nil) (by kernel_rfl) ?_
      obtain ⟨r4, h8, hm⟩ := obind hm
      refine X_reg_seq ty_ok Γok hL [(1, .c (s_l22Wait_r r4) (s_l22Wait_n r4) (s_l22Wait_o i1 r4))] (.cons (s_l22Wait_c h8) .nil) (by kernel_rfl) ?_
      refine Ok_seq ?_
      obtain ⟨v1, hv2, hk2⟩ := obind hm
      refine X_join (n := 88) (fun (v1 : Bool) => (⟨[(11, .dat (.sc (.int .i64 r3.1))), (12, .dat (.sc (.int .i64 r3.2))), (13, .dat (.sc (.int .i64 r4.1))), (14, .dat (.sc (.int .i64 r4.2))), (70, .dat (.sc (.bool v1)))], [], 32⟩ : X)) v1 ?_ ?_
      · have hm := hv2
        rcases btf (r3.2 == 0) with hb2 | hb2
        · have hm := it hb2 hm
          obtain rfl := some_inj hm
          refine X_reg ty_ok Γok hL [(2, .b true)] (.cons hb2 .nil) (by kernel_rfl) ?_
          exact thN (Wk_J hL ⟨[(11, []), (12, []), (13, []), (14, []), (70, [])], [], [], 32⟩ (by kernel_rfl))
        · have hm := ie hb2 hm
          obtain rfl := some_inj hm
          refine X_reg ty_ok Γok hL [(2, .b false)] (.cons hb2 .nil) (by kernel_rfl) ?_
          exact thN (Wk_J hL ⟨[(11, []), (12, []), (13, []), (14, []), (70, [])], [], [], 32⟩ (by kernel_rfl))
      have hm := hk2
      refine X_cond v1 (by kernel_rfl) (fun hc3 => ?_) (fun hc3 => ?_)
      · have hm := it hc3 hm
        refine X_reg_seq ty_ok Γok hL [] .nil (by kernel_rfl) ?_
        obtain rfl := some_inj hm
        refine Ok_ret ?_
        repeat (first | refine thR ?_ | refine ibR ?_)
        exact X_fin [] [] (by kernel_rfl) trivial
      · have hm := ie hc3 hm
        refine X_skip ?_
        refine thN ?_
        obtain ⟨r5, h9, hm⟩ := obind hm
        refine X_reg_seq ty_ok Γok hL [(11, .c (s_l22Reduce_r r5) (s_l22Reduce_n r5) (s_l22Reduce_o ((w64 ((w64 (r3.1 * r4.2)) - (w64 (r4.1 * r3.2)))), (w64 ((w64 (2 * r3.2)) * r4.2))) r5))] (.cons (s_l22Reduce_c h9) .nil) (by kernel_rfl) ?_
        refine X_reg_seq ty_ok Γok hL [] .nil (by kernel_rfl) ?_
        obtain rfl := some_inj hm
        refine Ok_ret ?_
        repeat (first | refine thR ?_ | refine ibR ?_)
        exact X_fin [] [] (by kernel_rfl) trivial
abbrev v_FnPunctuality_r (y : Bool) : AV := .dat (Enc.e y)
abbrev v_FnPunctuality_n (y : Bool) : List Obj' := []
abbrev v_FnPunctuality_o (x : (List UInt8)) (y : Bool) : List Obj' := []
noncomputable def v_FnPunctuality_S : FnSpec := modS [.rd] (fun x : (List UInt8) => [Enc.e x]) (fun x : (List UInt8) => []) (fun x : (List UInt8) => v_FnPunctuality x) v_FnPunctuality_r v_FnPunctuality_n v_FnPunctuality_o
theorem v_FnPunctuality_c {code : List UInt8} {y : Bool} (h : v_FnPunctuality code = some y) : CallOK v_FnPunctuality_S [Enc.e code] [] (v_FnPunctuality_r y) (v_FnPunctuality_n y) (v_FnPunctuality_o code y) :=
  modS_call (by
    rintro a0 b0 h hO
    have q0 : a0 = b0 := Enc.inj _ _ (congrArg (fun l => List.getD l 0 (.sc undef)) h)
    subst q0; rfl) (x := code) h
theorem v_FnPunctuality_ok : FnOK Try.prog 8 v_FnPunctuality_S := by
  have Γok : ∀ f S, lookF f [(9, v_rBig_S), (69, s_DrawShiftVisits_S), (70, i_ShiftVisits_S), (71, s_ShiftVisits_S), (72, i_MeanDelay_S), (73, i_DelayQuantile_S), (74, s_DrawBestBuffer_S), (75, i_BestBuffer_S), (76, s_BestBuffer_S), (77, i_PunctualShare_S), (78, s_DrawDelayQuantile_S), (79, s_DelayQuantile_S), (80, s_DrawExcessWait_S), (81, i_ExcessWait_S), (82, s_ExcessWait_S)] = some S → FnOK Try.prog f S := lookF_ok (allF_cons v_rBig_ok (allF_cons s_DrawShiftVisits_ok (allF_cons i_ShiftVisits_ok (allF_cons s_ShiftVisits_ok (allF_cons i_MeanDelay_ok (allF_cons i_DelayQuantile_ok (allF_cons s_DrawBestBuffer_ok (allF_cons i_BestBuffer_ok (allF_cons s_BestBuffer_ok (allF_cons i_PunctualShare_ok (allF_cons s_DrawDelayQuantile_ok (allF_cons s_DelayQuantile_ok (allF_cons s_DrawExcessWait_ok (allF_cons i_ExcessWait_ok (allF_cons s_ExcessWait_ok allF_nil)))))))))))))))
  have Γlive : Live (fun f => lookF f [(9, v_rBig_S), (69, s_DrawShiftVisits_S), (70, i_ShiftVisits_S), (71, s_ShiftVisits_S), (72, i_MeanDelay_S), (73, i_DelayQuantile_S), (74, s_DrawBestBuffer_S), (75, i_BestBuffer_S), (76, s_BestBuffer_S), (77, i_PunctualShare_S), (78, s_DrawDelayQuantile_S), (79, s_DelayQuantile_S), (80, s_DrawExcessWait_S), (81, i_ExcessWait_S), (82, s_ExcessWait_S)]) := lookF_live (allL_cons modS_live (allL_cons modS_live (allL_cons modS_live (allL_cons modS_live (allL_cons modS_live (allL_cons modS_live (allL_cons modS_live (allL_cons modS_live (allL_cons modS_live (allL_cons modS_live (allL_cons modS_live (allL_cons modS_live (allL_cons modS_live (allL_cons modS_live (allL_cons modS_live allL_nil)))))))))))))))
  refine fnOK_mod ty_ok (fun args w => Try.call8 args w) Try.func8 rfl [.tmp 2] (by rw [Try.results8]) 265 Try.ntmps8 16 rfl (fun _ => by first | exact Nat.zero_le _ | (simp)) ?_
  rintro code y cx hm hL
  have hm : v_FnPunctuality code = some y := hm
  have hL : cx.L = 0 := hL
  unfold v_FnPunctuality at hm
  refine X_reg_seq ty_ok Γok hL [] .nil (by kernel_rfl) ?_
  refine Ok_seq ?_
  obtain ⟨r, h, hm⟩ := obind hm
  refine X_reg_seq ty_ok Γok hL [(1, .c (v_rBig_r r) (v_rBig_n r) (v_rBig_o code r))] (.cons (v_rBig_c h) .nil) (by kernel_rfl) ?_
  refine X_cond r (by kernel_rfl) (fun hc => ?_) (fun hc => ?_)
  · have hm := it hc hm
    refine X_reg_seq ty_ok Γok hL [] .nil (by kernel_rfl) ?_
    obtain rfl := some_inj hm
    refine Ok_ret ?_
    repeat (first | refine thR ?_ | refine ibR ?_)
    exact X_fin [] [] (by kernel_rfl) trivial
  · have hm := ie hc hm
    refine X_skip ?_
    refine thN ?_
    obtain ⟨r1, h1, hm⟩ := obind hm
    refine X_reg_seq ty_ok Γok hL [(1, .c (s_DrawShiftVisits_r r1) (s_DrawShiftVisits_n r1) (s_DrawShiftVisits_o code r1))] (.cons (s_DrawShiftVisits_c h1) .nil) (by kernel_rfl) ?_
    obtain ⟨r2, h2, hm⟩ := obind hm
    refine X_reg_seq ty_ok Γok hL [(2, .fz [80] [] []), (2, .c (i_ShiftVisits_r r2) (i_ShiftVisits_n r2) (i_ShiftVisits_o (r1.1, r1.2) r2))] (.cons (i_ShiftVisits_c h2) .nil) (by kernel_rfl) ?_
    refine Ok_seq ?_
    obtain ⟨r3, h3, hm⟩ := obind hm
    refine X_reg_seq ty_ok Γok hL [(2, .c (s_ShiftVisits_r r3) (s_ShiftVisits_n r3) (s_ShiftVisits_o (r1.1, r1.2) r3))] (.cons (s_ShiftVisits_c h3) .nil) (by kernel_rfl) ?_
    obtain ⟨v, hv, hk⟩ := obind hm
    refine X_join (n := 265) (fun (v : Bool) => (⟨[(0, .dat (Enc.e code)), (3, .dat (Enc.e r1.1)), (4, .dat (.sc (.int .i64 r1.2))), (5, .dat (Enc.e r2.1)), (6, .dat (.sc (.bool r2.2))), (75, .dat (.sc (.bool v)))], [], 32⟩ : X)) v ?_ ?_
    · have hm := hv
      rcases btf (!(r2.2 == r3.2)) with hb | hb
      · have hm := it hb hm
        obtain rfl := some_inj hm
        refine X_reg ty_ok Γok hL [(3, .b true)] (.cons hb .nil) (by kernel_rfl) ?_
        exact thN (Wk_J hL ⟨[(0, []), (3, []), (4, []), (5, []), (6, []), (75, [])], [], [], 32⟩ (by kernel_rfl))
      · have hm := ie hb hm
        obtain rfl := some_inj hm
        refine X_reg ty_ok Γok hL [(3, .b false), (5, .n (r2.1.length : Int)), (7, .n (r3.1.length : Int))] (.cons hb (.cons (len_m Enc.e r2.1) (.cons (len_m Enc.e r3.1) .nil))) (by kernel_rfl) ?_
        exact thN (Wk_J hL ⟨[(0, []), (3, []), (4, []), (5, []), (6, []), (75, [])], [], [], 32⟩ (by kernel_rfl))
    have hm := hk
    refine X_cond v (by kernel_rfl) (fun hc1 => ?_) (fun hc1 => ?_)
    · have hm := it hc1 hm
      refine X_reg_seq ty_ok Γok hL [] .nil (by kernel_rfl) ?_
      obtain rfl := some_inj hm
      refine Ok_ret ?_
      repeat (first | refine thR ?_ | refine ibR ?_)
      exact X_fin [] [] (by kernel_rfl) trivial
    · have hm := ie hc1 hm
      refine X_skip ?_
      refine thN ?_
      obtain ⟨v7, hv1, hr, hk1⟩ := flb_t hm
      refine X_joinF (n := 265) (fun (_ : Unit) => (⟨[(0, .dat (Enc.e code))], [], 32⟩ : X)) v7 ?_ ?_
      · have hm := hv1
        obtain ⟨v1, hv2, hk2⟩ := obind hm
        refine X_join (n := 265) (fun (v1 : Bool) => (⟨[(0, .dat (Enc.e code)), (3, .dat (Enc.e r1.1)), (4, .dat (.sc (.int .i64 r1.2))), (5, .dat (Enc.e r2.1)), (81, .dat (.sc (.bool v1)))], [], 32⟩ : X)) v1 ?_ ?_
        · have hm := hv2
          rcases btf r2.2 with hb1 | hb1
          · have hm := it hb1 hm
            obtain rfl := some_inj hm
            refine X_reg ty_ok Γok hL [(1, .b true), (3, .n (r1.1.length : Int))] (.cons hb1 (.cons (len_m Enc.e r1.1) .nil)) (by kernel_rfl) ?_
            exact thN (Wk_J hL ⟨[(0, []), (3, []), (4, []), (5, []), (81, [])], [], [], 32⟩ (by kernel_rfl))
          · have hm := ie hb1 hm
            obtain rfl := some_inj hm
            refine X_reg ty_ok Γok hL [(1, .b false)] (.cons hb1 .nil) (by kernel_rfl) ?_
            exact thN (Wk_J hL ⟨[(0, []), (3, []), (4, []), (5, []), (81, [])], [], [], 32⟩ (by kernel_rfl))
        have hm := hk2
        refine X_cond v1 (by kernel_rfl) (fun hc2 => ?_) (fun hc2 => ?_)
        · have hm := it hc2 hm
          obtain ⟨r4, h4, hm⟩ := obind hm
          refine X_reg_seq ty_ok Γok hL [(1, .c (i_MeanDelay_r r4) (i_MeanDelay_n r4) (i_MeanDelay_o r1.1 r4))] (.cons (i_MeanDelay_c h4) .nil) (by kernel_rfl) ?_
          obtain ⟨r5, h5, hm⟩ := obind hm
          refine X_reg_seq ty_ok Γok hL [(1, .c (i_MeanDelay_r r5) (i_MeanDelay_n r5) (i_MeanDelay_o r2.1 r5))] (.cons (i_MeanDelay_c h5) .nil) (by kernel_rfl) ?_
          obtain ⟨r6, h6, hm⟩ := obind hm
          refine X_reg_seq ty_ok Γok hL [(1, .c (i_DelayQuantile_r r6) (i_DelayQuantile_n r6) (i_DelayQuantile_o (r1.1, 1, 2) r6))] (.cons (i_DelayQuantile_c h6) .nil) (by kernel_rfl) ?_
          obtain ⟨r7, h7, hm⟩ := obind hm
          refine X_reg_seq ty_ok Γok hL [(1, .c (i_DelayQuantile_r r7) (i_DelayQuantile_n r7) (i_DelayQuantile_o (r2.1, 1, 2) r7))] (.cons (i_DelayQuantile_c h7) .nil) (by kernel_rfl) ?_
          obtain ⟨v2, hv3, hk3⟩ := obind hm
          refine X_join (n := 265) (fun (v2 : Bool) => (⟨[(0, .dat (Enc.e code)), (138, .dat (.sc (.bool v2)))], [], 32⟩ : X)) v2 ?_ ?_
          · have hm := hv3
            rcases btf (!r4.2.2) with hb2 | hb2
            · have hm := it hb2 hm
              obtain rfl := some_inj hm
              refine X_reg ty_ok Γok hL [(2, .b true)] (.cons hb2 .nil) (by kernel_rfl) ?_
              exact thN (Wk_J hL ⟨[(0, []), (138, [])], [], [], 32⟩ (by kernel_rfl))
            · have hm := ie hb2 hm
              rcases btf (!r5.2.2) with hb3 | hb3
              · have hm := it hb3 hm
                obtain rfl := some_inj hm
                refine X_reg ty_ok Γok hL [(2, .b false), (6, .b true)] (.cons hb2 (.cons hb3 .nil)) (by kernel_rfl) ?_
                exact thN (Wk_J hL ⟨[(0, []), (138, [])], [], [], 32⟩ (by kernel_rfl))
              · have hm := ie hb3 hm
                rcases btf (!r6.2) with hb4 | hb4
                · have hm := it hb4 hm
                  obtain rfl := some_inj hm
                  refine X_reg ty_ok Γok hL [(2, .b false), (6, .b false), (10, .b true)] (.cons hb2 (.cons hb3 (.cons hb4 .nil))) (by kernel_rfl) ?_
                  exact thN (Wk_J hL ⟨[(0, []), (138, [])], [], [], 32⟩ (by kernel_rfl))
                · have hm := ie hb4 hm
                  rcases btf (!r7.2) with hb5 | hb5
                  · have hm := it hb5 hm
                    obtain rfl := some_inj hm
                    refine X_reg ty_ok Γok hL [(2, .b false), (6, .b false), (10, .b false), (14, .b true)] (.cons hb2 (.cons hb3 (.cons hb4 (.cons hb5 .nil)))) (by kernel_rfl) ?_
                    exact thN (Wk_J hL ⟨[(0, []), (138, [])], [], [], 32⟩ (by kernel_rfl))
                  · have hm := ie hb5 hm
                    rcases btf (r4.2.1 != r5.2.1) with hb6 | hb6
                    · have hm := it hb6 hm
                      obtain rfl := some_inj hm
                      refine X_reg ty_ok Γok hL [(2, .b false), (6, .b false), (10, .b false), (14, .b false), (19, .b true)] (.cons hb2 (.cons hb3 (.cons hb4 (.cons hb5 (.cons hb6 .nil))))) (by kernel_rfl) ?_
                      exact thN (Wk_J hL ⟨[(0, []), (138, [])], [], [], 32⟩ (by kernel_rfl))
                    · have hm := ie hb6 hm
                      rcases btf (r5.1 != (w64 (r4.1 - (w64 (r1.2 * r4.2.1))))) with hb7 | hb7
                      · have hm := it hb7 hm
                        obtain rfl := some_inj hm
                        refine X_reg ty_ok Γok hL [(2, .b false), (6, .b false), (10, .b false), (14, .b false), (19, .b false), (28, .b true)] (.cons hb2 (.cons hb3 (.cons hb4 (.cons hb5 (.cons hb6 (.cons hb7 .nil)))))) (by kernel_rfl) ?_
                        exact thN (Wk_J hL ⟨[(0, []), (138, [])], [], [], 32⟩ (by kernel_rfl))
                      · have hm := ie hb7 hm
                        obtain rfl := some_inj hm
                        refine X_reg ty_ok Γok hL [(2, .b false), (6, .b false), (10, .b false), (14, .b false), (19, .b false), (28, .b false)] (.cons hb2 (.cons hb3 (.cons hb4 (.cons hb5 (.cons hb6 (.cons hb7 .nil)))))) (by kernel_rfl) ?_
                        exact thN (Wk_J hL ⟨[(0, []), (138, [])], [], [], 32⟩ (by kernel_rfl))
          have hm := hk3
          refine X_cond v2 (by kernel_rfl) (fun hc3 => ?_) (fun hc3 => ?_)
          · have hm := it hc3 hm
            refine X_reg_seq ty_ok Γok hL [] .nil (by kernel_rfl) ?_
            obtain rfl := some_inj hm
            have hm := congrArg some (hr _ rfl)
            obtain rfl := some_inj hm
            refine Ok_ret ?_
            repeat (first | refine thR ?_ | refine ibR ?_)
            exact X_fin [] [] (by kernel_rfl) trivial
          · have hm := ie hc3 hm
            refine X_skip ?_
            obtain rfl := some_inj hm
            exact thN ⟨_, rfl, Wk_J hL ⟨[(0, [])], [], [], 32⟩ (by kernel_rfl)⟩
        · have hm := ie hc2 hm
          refine X_skip ?_
          obtain rfl := some_inj hm
          exact thN ⟨_, rfl, Wk_J hL ⟨[(0, [])], [], [], 32⟩ (by kernel_rfl)⟩
      rintro ⟨⟩ hu1
      have hm := hk1 _ hu1
      obtain ⟨r9, h8, hm⟩ := obind hm
      refine X_reg_seq ty_ok Γok hL [(1, .c (s_DrawBestBuffer_r r9) (s_DrawBestBuffer_n r9) (s_DrawBestBuffer_o code r9))] (.cons (s_DrawBestBuffer_c h8) .nil) (by kernel_rfl) ?_
      obtain ⟨r10, h9, hm⟩ := obind hm
      refine X_reg_seq ty_ok Γok hL [(4, .c (i_BestBuffer_r r10) (i_BestBuffer_n r10) (i_BestBuffer_o (r9.1, r9.2.1, r9.2.2.1, r9.2.2.2) r10))] (.cons (i_BestBuffer_c h9) .nil) (by kernel_rfl) ?_
      obtain ⟨r11, h10, hm⟩ := obind hm
      refine X_reg_seq ty_ok Γok hL [(4, .c (s_BestBuffer_r r11) (s_BestBuffer_n r11) (s_BestBuffer_o (r9.1, r9.2.1, r9.2.2.1, r9.2.2.2) r11))] (.cons (s_BestBuffer_c h10) .nil) (by kernel_rfl) ?_
      refine Ok_seq ?_
      obtain ⟨v3, hv4, hk4⟩ := obind hm
      refine X_join (n := 265) (fun (v3 : Bool) => (⟨[(0, .dat (Enc.e code)), (19, .own 16), (20, .dat (.sc (.int .i64 r9.2.1))), (21, .dat (.sc (.int .i64 r9.2.2.1))), (24, .dat (.sc (.int .i64 r10.2.1))), (25, .dat (.sc (.bool r10.2.2))), (176, .dat (.sc (.bool v3)))], [(16, some (.arr 206 4 (List.map Enc.e r9.1)))], 48⟩ : X)) v3 ?_ ?_
      · have hm := hv4
        rcases btf (r10.1 != r11.1) with hb8 | hb8
        · have hm := it hb8 hm
          obtain rfl := some_inj hm
          refine X_reg ty_ok Γok hL [(3, .b true)] (.cons hb8 .nil) (by kernel_rfl) ?_
          exact thN (Wk_J hL ⟨[(0, []), (19, []), (20, []), (21, []), (24, []), (25, []), (176, [])], [(16, 48, [])], [], 48⟩ (by kernel_rfl))
        · have hm := ie hb8 hm
          rcases btf (r10.2.1 != r11.2.1) with hb9 | hb9
          · have hm := it hb9 hm
            obtain rfl := some_inj hm
            refine X_reg ty_ok Γok hL [(3, .b false), (8, .b true)] (.cons hb8 (.cons hb9 .nil)) (by kernel_rfl) ?_
            exact thN (Wk_J hL ⟨[(0, []), (19, []), (20, []), (21, []), (24, []), (25, []), (176, [])], [(16, 48, [])], [], 48⟩ (by kernel_rfl))
          · have hm := ie hb9 hm
            obtain rfl := some_inj hm
            refine X_reg ty_ok Γok hL [(3, .b false), (8, .b false)] (.cons hb8 (.cons hb9 .nil)) (by kernel_rfl) ?_
            exact thN (Wk_J hL ⟨[(0, []), (19, []), (20, []), (21, []), (24, []), (25, []), (176, [])], [(16, 48, [])], [], 48⟩ (by kernel_rfl))
      have hm := hk4
      refine X_cond v3 (by kernel_rfl) (fun hc4 => ?_) (fun hc4 => ?_)
      · have hm := it hc4 hm
        refine X_reg_seq ty_ok Γok hL [] .nil (by kernel_rfl) ?_
        obtain rfl := some_inj hm
        refine Ok_ret ?_
        repeat (first | refine thR ?_ | refine ibR ?_)
        exact X_fin [] [] (by kernel_rfl) trivial
      · have hm := ie hc4 hm
        refine X_skip ?_
        refine thN ?_
        obtain ⟨v6, hv5, hr1, hk5⟩ := flb_t hm
        refine X_joinF (n := 265) (fun (_ : Unit) => (⟨[(0, .dat (Enc.e code))], [], 32⟩ : X)) v6 ?_ ?_
        · have hm := hv5
          obtain ⟨v4, hv6, hk6⟩ := obind hm
          refine X_join (n := 265) (fun (v4 : Bool) => (⟨[(0, .dat (Enc.e code)), (19, .own 16), (20, .dat (.sc (.int .i64 r9.2.1))), (21, .dat (.sc (.int .i64 r9.2.2.1))), (24, .dat (.sc (.int .i64 r10.2.1))), (182, .dat (.sc (.bool v4)))], [(16, some (.arr 206 4 (List.map Enc.e r9.1)))], 48⟩ : X)) v4 ?_ ?_
          · have hm := hv6
            rcases btf r10.2.2 with hb10 | hb10
            · have hm := it hb10 hm
              obtain rfl := some_inj hm
              refine X_reg ty_ok Γok hL [(1, .b true), (3, .n (r9.1.length : Int))] (.cons hb10 (.cons (len_m Enc.e r9.1) .nil)) (by kernel_rfl) ?_
              exact thN (Wk_J hL ⟨[(0, []), (19, []), (20, []), (21, []), (24, []), (182, [])], [(16, 16, [])], [], 48⟩ (by kernel_rfl))
            · have hm := ie hb10 hm
              obtain rfl := some_inj hm
              refine X_reg ty_ok Γok hL [(1, .b false)] (.cons hb10 .nil) (by kernel_rfl) ?_
              exact thN (Wk_J hL ⟨[(0, []), (19, []), (20, []), (21, []), (24, []), (182, [])], [(16, 16, [])], [], 48⟩ (by kernel_rfl))
          have hm := hk6
          refine X_cond v4 (by kernel_rfl) (fun hc5 => ?_) (fun hc5 => ?_)
          · have hm := it hc5 hm
            obtain ⟨r12, h11, hm⟩ := obind hm
            refine X_reg_seq ty_ok Γok hL [(3, .c (i_PunctualShare_r r12) (i_PunctualShare_n r12) (i_PunctualShare_o (r9.1, r9.2.1, r9.2.2.1) r12))] (.cons (i_PunctualShare_c h11) .nil) (by kernel_rfl) ?_
            obtain ⟨v5, hv7, hk7⟩ := obind hm
            refine X_join (n := 265) (fun (v5 : Bool) => (⟨[(0, .dat (Enc.e code)), (202, .dat (.sc (.bool v5)))], [], 32⟩ : X)) v5 ?_ ?_
            · have hm := hv7
              rcases btf (!r12.2.2) with hb11 | hb11
              · have hm := it hb11 hm
                obtain rfl := some_inj hm
                refine X_reg ty_ok Γok hL [(2, .b true)] (.cons hb11 .nil) (by kernel_rfl) ?_
                exact thN (Wk_J hL ⟨[(0, []), (202, [])], [], [], 32⟩ (by kernel_rfl))
              · have hm := ie hb11 hm
                obtain rfl := some_inj hm
                refine X_reg ty_ok Γok hL [(2, .b false), (8, .n (r9.1.length : Int))] (.cons hb11 (.cons (len_m Enc.e r9.1) .nil)) (by kernel_rfl) ?_
                exact thN (Wk_J hL ⟨[(0, []), (202, [])], [], [], 32⟩ (by kernel_rfl))
            have hm := hk7
            refine X_cond v5 (by kernel_rfl) (fun hc6 => ?_) (fun hc6 => ?_)
            · have hm := it hc6 hm
              refine X_reg_seq ty_ok Γok hL [] .nil (by kernel_rfl) ?_
              obtain rfl := some_inj hm
              have hm := congrArg some (hr1 _ rfl)
              obtain rfl := some_inj hm
              refine Ok_ret ?_
              repeat (first | refine thR ?_ | refine ibR ?_)
              exact X_fin [] [] (by kernel_rfl) trivial
            · have hm := ie hc6 hm
              refine X_skip ?_
              obtain rfl := some_inj hm
              exact thN ⟨_, rfl, Wk_J hL ⟨[(0, [])], [], [], 32⟩ (by kernel_rfl)⟩
          · have hm := ie hc5 hm
            refine X_skip ?_
            obtain rfl := some_inj hm
            exact thN ⟨_, rfl, Wk_J hL ⟨[(0, [])], [], [], 32⟩ (by kernel_rfl)⟩
        rintro ⟨⟩ hu
        have hm := hk5 _ hu
        obtain ⟨r14, h12, hm⟩ := obind hm
        refine X_reg_seq ty_ok Γok hL [(1, .c (s_DrawDelayQuantile_r r14) (s_DrawDelayQuantile_n r14) (s_DrawDelayQuantile_o code r14))] (.cons (s_DrawDelayQuantile_c h12) .nil) (by kernel_rfl) ?_
        obtain ⟨r15, h13, hm⟩ := obind hm
        refine X_reg_seq ty_ok Γok hL [(3, .c (i_DelayQuantile_r r15) (i_DelayQuantile_n r15) (i_DelayQuantile_o (r14.1, r14.2.1, r14.2.2) r15))] (.cons (i_DelayQuantile_c h13) .nil) (by kernel_rfl) ?_
        obtain ⟨r16, h14, hm⟩ := obind hm
        refine X_reg_seq ty_ok Γok hL [(3, .c (s_DelayQuantile_r r16) (s_DelayQuantile_n r16) (s_DelayQuantile_o (r14.1, r14.2.1, r14.2.2) r16))] (.cons (s_DelayQuantile_c h14) .nil) (by kernel_rfl) ?_
        obtain ⟨r17, h15, hm⟩ := obind hm
        refine X_reg_seq ty_ok Γok hL [(1, .c (s_DrawExcessWait_r r17) (s_DrawExcessWait_n r17) (s_DrawExcessWait_o code r17))] (.cons (s_DrawExcessWait_c h15) .nil) (by kernel_rfl) ?_
        obtain ⟨r18, h16, hm⟩ := obind hm
        refine X_reg_seq ty_ok Γok hL [(2, .c (i_ExcessWait_r r18) (i_ExcessWait_n r18) (i_ExcessWait_o (r17.1, r17.2) r18))] (.cons (i_ExcessWait_c h16) .nil) (by kernel_rfl) ?_
        obtain ⟨r19, h17, hm⟩ := obind hm
        refine X_reg_seq ty_ok Γok hL [(2, .c (s_ExcessWait_r r19) (s_ExcessWait_n r19) (s_ExcessWait_o (r17.1, r17.2) r19))] (.cons (s_ExcessWait_c h17) .nil) (by kernel_rfl) ?_
        obtain ⟨list, hv8, hk8⟩ := obind hm
        refine X_join (n := 265) (fun (list : Bool) => (⟨[(2, .dat (.sc (.bool list)))], [], 32⟩ : X)) list ?_ ?_
        · have hm := hv8
          rcases btf (r15.1 == r16.1) with hb12 | hb12
          · have hm := it hb12 hm
            rcases btf (r15.2 == r16.2) with hb13 | hb13
            · have hm := it hb13 hm
              rcases btf (r18.1 == r19.1) with hb14 | hb14
              · have hm := it hb14 hm
                rcases btf (r18.2.1 == r19.2.1) with hb15 | hb15
                · have hm := it hb15 hm
                  obtain rfl := some_inj hm
                  refine X_reg ty_ok Γok hL [(3, .b true), (8, .b true), (13, .b true), (18, .b true)] (.cons hb12 (.cons hb13 (.cons hb14 (.cons hb15 .nil)))) (by kernel_rfl) ?_
                  exact thN (Wk_J hL ⟨[(2, [])], [], [], 32⟩ (by kernel_rfl))
                · have hm := ie hb15 hm
                  obtain rfl := some_inj hm
                  refine X_reg ty_ok Γok hL [(3, .b true), (8, .b true), (13, .b true), (18, .b false)] (.cons hb12 (.cons hb13 (.cons hb14 (.cons hb15 .nil)))) (by kernel_rfl) ?_
                  exact thN (Wk_J hL ⟨[(2, [])], [], [], 32⟩ (by kernel_rfl))
              · have hm := ie hb14 hm
                obtain rfl := some_inj hm
                refine X_reg ty_ok Γok hL [(3, .b true), (8, .b true), (13, .b false)] (.cons hb12 (.cons hb13 (.cons hb14 .nil))) (by kernel_rfl) ?_
                exact thN (Wk_J hL ⟨[(2, [])], [], [], 32⟩ (by kernel_rfl))
            · have hm := ie hb13 hm
              obtain rfl := some_inj hm
              refine X_reg ty_ok Γok hL [(3, .b true), (8, .b false)] (.cons hb12 (.cons hb13 .nil)) (by kernel_rfl) ?_
              exact thN (Wk_J hL ⟨[(2, [])], [], [], 32⟩ (by kernel_rfl))
          · have hm := ie hb12 hm
            obtain rfl := some_inj hm
            refine X_reg ty_ok Γok hL [(3, .b false)] (.cons hb12 .nil) (by kernel_rfl) ?_
            exact thN (Wk_J hL ⟨[(2, [])], [], [], 32⟩ (by kernel_rfl))
        have hm := hk8
        obtain rfl := some_inj hm
        refine Ok_ret ?_
        repeat (first | refine thR ?_ | refine ibR ?_)
        exact X_fin [] [] (by kernel_rfl) trivial
end Go.Proofs.Ytepdapiceklppaa
