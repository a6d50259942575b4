/- The law FnExactFormatConsole: for every slice of bytes the Go function returns true and leaves what was there as it was. No condition. -/
import Derived.Test.YtpdjoidmbaaopaaGreatDoorRows
import Derived.Test.YtpdjoidmbaaopaaGreatDoorTie
import Derived.Test.YtpdjoidmbaaopaaGreatDoorCards
import Derived.Test.YtpdjoidmbaaopaaGreatDoorAbCard
import Derived.WalkKit
import Derived.ProofKit
import Derived.OpenShut
import Derived.ShutString
import Derived.ChangeOld
import Derived.Below
import Derived.Carry
import Derived.Test.YtpdjoidmbaaopaaGreatDoorAbLaw
import Derived.Test.YtpdjoidmbaaopaaGreatDoorAbArg
import Derived.Test.YtpdjoidmbaaopaaGreatDoorFcW1
import Derived.Test.YtpdjoidmbaaopaaGreatDoorFcL
namespace Go.Proofs.YtpdjoidmbaaopaaGreatDoor.fnExactFormatConsole
open Go.ChangeShapes Go.WideShapes Go.ChangeAt Go.RowKit
set_option linter.unusedVariables false

theorem own : ownKnob Tryz.prog.godebug = none := by kernel_rfl
theorem laidOut : laidOutB Tryz.prog = true := by kernel_rfl

/-! What the argument reads is a datum of the model's type. -/
section
open Go.Ab
def tkq_Line : Line → Prop := fun a : Line => QS a.Name ∧ (QL QI) a.Stops ∧ (QL QI) a.Runs
theorem tk_187 : Tk Tryz.prog Line tkq_Line 187 := by
  intro H enc w fuel cs x h
  obtain ⟨xs, m, rfl, hx, hl, hn, hf⟩ := DataW.trod_struct Tryz.underlying187 h
  have g0 := hf 0 _ rfl
  have g1 := hf 1 _ rfl
  have g2 := hf 2 _ rfl
  obtain ⟨a0, q0, r0⟩ := tk_part 0 1 (tk_str Tryz.underlying9) rfl (by kernel_rfl) g0 (by rw [hn]; exact of_decide_eq_true rfl)
  obtain ⟨a1, q1, r1⟩ := tk_part 1 1 (tk_slice Tryz.underlying96 (by kernel_rfl) (by decide) (tk_int Tryz.underlying3)) rfl (by kernel_rfl) g1 (by rw [hn]; exact of_decide_eq_true rfl)
  obtain ⟨a2, q2, r2⟩ := tk_part 2 1 (tk_slice Tryz.underlying96 (by kernel_rfl) (by decide) (tk_int Tryz.underlying3)) rfl (by kernel_rfl) g2 (by rw [hn]; exact of_decide_eq_true rfl)
  have hc : Tryz.prog.cellsOf 187 = 3 := by kernel_rfl
  have hh : RC (LiveB w) w ((Enc.e a0).cells ++ ((Enc.e a1).cells ++ ((Enc.e a2).cells ++ ([])))) (cs.drop 0) := RC.part r0 (RC.part r1 (RC.part r2 (RC.fin (by omega))))
  exact ⟨⟨a0, a1, a2⟩, ⟨q0, q1, q2⟩, hh⟩
def tkq_Network : Network → Prop := fun a : Network => (QL QS) a.Stops ∧ (QL tkq_Line) a.Lines
theorem tk_44 : Tk Tryz.prog Network tkq_Network 44 := by
  intro H enc w fuel cs x h
  obtain ⟨xs, m, rfl, hx, hl, hn, hf⟩ := DataW.trod_struct Tryz.underlying44 h
  have g0 := hf 0 _ rfl
  have g1 := hf 1 _ rfl
  obtain ⟨a0, q0, r0⟩ := tk_part 0 1 (tk_slice Tryz.underlying24 (by kernel_rfl) (by decide) (tk_str Tryz.underlying9)) rfl (by kernel_rfl) g0 (by rw [hn]; exact of_decide_eq_true rfl)
  obtain ⟨a1, q1, r1⟩ := tk_part 1 1 (tk_slice Tryz.underlying42 (by kernel_rfl) (by decide) tk_187) rfl (by kernel_rfl) g1 (by rw [hn]; exact of_decide_eq_true rfl)
  have hc : Tryz.prog.cellsOf 44 = 2 := by kernel_rfl
  have hh : RC (LiveB w) w ((Enc.e a0).cells ++ ((Enc.e a1).cells ++ ([]))) (cs.drop 0) := RC.part r0 (RC.part r1 (RC.fin (by omega)))
  exact ⟨⟨a0, a1⟩, ⟨q0, q1⟩, hh⟩
def tkq_Trip : Trip → Prop := fun a : Trip => QI a.Id ∧ QI a.Line ∧ QI a.Start
theorem tk_164 : Tk Tryz.prog Trip tkq_Trip 164 := by
  intro H enc w fuel cs x h
  obtain ⟨xs, m, rfl, hx, hl, hn, hf⟩ := DataW.trod_struct Tryz.underlying164 h
  have g0 := hf 0 _ rfl
  have g1 := hf 1 _ rfl
  have g2 := hf 2 _ rfl
  obtain ⟨a0, q0, r0⟩ := tk_part 0 1 (tk_int Tryz.underlying3) rfl (by kernel_rfl) g0 (by rw [hn]; exact of_decide_eq_true rfl)
  obtain ⟨a1, q1, r1⟩ := tk_part 1 1 (tk_int Tryz.underlying3) rfl (by kernel_rfl) g1 (by rw [hn]; exact of_decide_eq_true rfl)
  obtain ⟨a2, q2, r2⟩ := tk_part 2 1 (tk_int Tryz.underlying3) rfl (by kernel_rfl) g2 (by rw [hn]; exact of_decide_eq_true rfl)
  have hc : Tryz.prog.cellsOf 164 = 3 := by kernel_rfl
  have hh : RC (LiveB w) w ((Enc.e a0).cells ++ ((Enc.e a1).cells ++ ((Enc.e a2).cells ++ ([])))) (cs.drop 0) := RC.part r0 (RC.part r1 (RC.part r2 (RC.fin (by omega))))
  exact ⟨⟨a0, a1, a2⟩, ⟨q0, q1, q2⟩, hh⟩
def tkq_Timetable : Timetable → Prop := fun a : Timetable => tkq_Network a.Network ∧ (QL tkq_Trip) a.Trips
theorem tk_47 : Tk Tryz.prog Timetable tkq_Timetable 47 := by
  intro H enc w fuel cs x h
  obtain ⟨xs, m, rfl, hx, hl, hn, hf⟩ := DataW.trod_struct Tryz.underlying47 h
  have g0 := hf 0 _ rfl
  have g1 := hf 1 _ rfl
  obtain ⟨a0, q0, r0⟩ := tk_part 0 2 tk_44 rfl (by kernel_rfl) g0 (by rw [hn]; exact of_decide_eq_true rfl)
  obtain ⟨a1, q1, r1⟩ := tk_part 2 1 (tk_slice Tryz.underlying45 (by kernel_rfl) (by decide) tk_164) rfl (by kernel_rfl) g1 (by rw [hn]; exact of_decide_eq_true rfl)
  have hc : Tryz.prog.cellsOf 47 = 3 := by kernel_rfl
  have hh : RC (LiveB w) w ((Enc.e a0).cells ++ ((Enc.e a1).cells ++ ([]))) (cs.drop 0) := RC.part r0 (RC.part r1 (RC.fin (by omega)))
  exact ⟨⟨a0, a1⟩, ⟨q0, q1⟩, hh⟩
def tkq_Log : Log → Prop := fun a : Log => QS a.Durable ∧ QS a.Pending ∧ QI a.Count
theorem tk_49 : Tk Tryz.prog Log tkq_Log 49 := by
  intro H enc w fuel cs x h
  obtain ⟨xs, m, rfl, hx, hl, hn, hf⟩ := DataW.trod_struct Tryz.underlying49 h
  have g0 := hf 0 _ rfl
  have g1 := hf 1 _ rfl
  have g2 := hf 2 _ rfl
  obtain ⟨a0, q0, r0⟩ := tk_part 0 1 (tk_str Tryz.underlying9) rfl (by kernel_rfl) g0 (by rw [hn]; exact of_decide_eq_true rfl)
  obtain ⟨a1, q1, r1⟩ := tk_part 1 1 (tk_str Tryz.underlying9) rfl (by kernel_rfl) g1 (by rw [hn]; exact of_decide_eq_true rfl)
  obtain ⟨a2, q2, r2⟩ := tk_part 2 1 (tk_int Tryz.underlying3) rfl (by kernel_rfl) g2 (by rw [hn]; exact of_decide_eq_true rfl)
  have hc : Tryz.prog.cellsOf 49 = 3 := by kernel_rfl
  have hh : RC (LiveB w) w ((Enc.e a0).cells ++ ((Enc.e a1).cells ++ ((Enc.e a2).cells ++ ([])))) (cs.drop 0) := RC.part r0 (RC.part r1 (RC.part r2 (RC.fin (by omega))))
  exact ⟨⟨a0, a1, a2⟩, ⟨q0, q1, q2⟩, hh⟩
def tkq_Console : Console → Prop := fun a : Console => tkq_Timetable a.Timetable ∧ QI a.Change ∧ tkq_Log a.Log
theorem tk_51 : Tk Tryz.prog Console tkq_Console 51 := by
  intro H enc w fuel cs x h
  obtain ⟨xs, m, rfl, hx, hl, hn, hf⟩ := DataW.trod_struct Tryz.underlying51 h
  have g0 := hf 0 _ rfl
  have g1 := hf 1 _ rfl
  have g2 := hf 2 _ rfl
  obtain ⟨a0, q0, r0⟩ := tk_part 0 3 tk_47 rfl (by kernel_rfl) g0 (by rw [hn]; exact of_decide_eq_true rfl)
  obtain ⟨a1, q1, r1⟩ := tk_part 3 1 (tk_int Tryz.underlying3) rfl (by kernel_rfl) g1 (by rw [hn]; exact of_decide_eq_true rfl)
  obtain ⟨a2, q2, r2⟩ := tk_part 4 3 tk_49 rfl (by kernel_rfl) g2 (by rw [hn]; exact of_decide_eq_true rfl)
  have hc : Tryz.prog.cellsOf 51 = 7 := by kernel_rfl
  have hh : RC (LiveB w) w ((Enc.e a0).cells ++ ((Enc.e a1).cells ++ ((Enc.e a2).cells ++ ([])))) (cs.drop 0) := RC.part r0 (RC.part r1 (RC.part r2 (RC.fin (by omega))))
  exact ⟨⟨a0, a1, a2⟩, ⟨q0, q1, q2⟩, hh⟩
end

/-! The walk: the Go text returns true and writes nothing that was there. -/
theorem walk (v0 : Value) (a0 : Console) (q0 : tkq_Console a0) (w : World) (hv : Go.Ab.RD (Go.Ab.LiveB w) w (Go.Ab.Enc.e a0) v0) (hJ : tJ.ok w) :
    Calls Tryz.prog 5 #[v0] w fun e w' => e = .returned (.bool true) ∧ Below w.heap.size w w' :=
  Go.Ab.law_walkD (Q := tkq_Console) v_FnExactFormatConsole_ok (fun x hx => fconsole_true x hx) v0 a0 q0 w hv hJ (Go.Ab.strJ_z hJ)

/-! The row. -/
/-- What the listed variables and the shape of the world give the walk. -/
theorem laidJ {W : World} (hX : laidMetH Tryz.prog Rows.fnExactFormatConsoleRow.laid W) (hsh : W.ShapedOpen Tryz.prog) : tJ.ok W := by
  refine ⟨fun g hg => ?_, fun g hg l hl => ?_⟩
  · obtain rfl : 1 = g := Option.some.inj ((show Tryz.prog.globalNamed "internal/bytealg.MaxLen" = some 1 by kernel_rfl).symm.trans hg)
    exact Go.Proofs.cell_of_shapedOpen_int (zero := #[.int .i64 0]) (t := 3) hsh (of_decide_eq_true (by kernel_rfl)) (by kernel_rfl) rfl (by kernel_rfl) (by kernel_rfl) Tryz.underlying3
  · cases hl
    have h0 : laidMet Tryz.prog Rows.fnExactFormatConsoleRow.laid W := (MakeChecks.laidMetH_plain _ _ _ (by kernel_rfl)) ▸ hX
    have h1 := laidMet.tail h0
    have h2 := laidMet.tail h1
    exact Lib.tabIs_of_head (show Tryz.prog.globalNamed "internal/strconv.uint64pow10" = some 0 by kernel_rfl) (by kernel_rfl) Tryz.underlying206 Tryz.underlying63 (by kernel_rfl) (by kernel_rfl) (show laidMet Tryz.prog (("internal/strconv.uint64pow10", Lib.tabData .u64 Lib.pow10Tab) :: _) W from h2)

set_option maxRecDepth 100000 in
theorem lifted (os : Os) (started : os.Started) (H : Type) (enc : TypeId × Value → H) :
    ReturnsInHanded {} Tryz.checked os 5 .any (fun w args => (Rows.fnExactFormatConsoleSpec.pre enc Tryz.prog Tryz.f5 Rows.fnExactFormatConsoleRow.domain false w args ∧ laidMetH Tryz.prog Rows.fnExactFormatConsoleRow.laid w) ∧ sizedMet enc Tryz.prog Tryz.f5 (OpenSpec.ofChange Rows.fnExactFormatConsoleSpec) false w args) (Rows.fnExactFormatConsoleSpec.post enc Tryz.prog Tryz.f5 false true false false) := by
  refine Go.Ab.returns_tied (C := Tryz.checked) (X := fun w _ => laidMetH Tryz.prog Rows.fnExactFormatConsoleRow.laid w) (fun _ _ _ hh h => h.of_heap hh) own started (by kernel_rfl) Tryz.func5
    (ChangeSpec.witness_shaped (enc := enc) (C := Tryz.checked) (os := os) (X := fun w _ => laidMetH Tryz.prog Rows.fnExactFormatConsoleRow.laid w) false (World.laidAll Tryz.prog os Rows.fnExactFormatConsoleRow.laid) #[.agg #[.slice none 0 0, .slice none 0 0, .slice none 0 0, .int .i64 0, .string ByteArray.empty, .string ByteArray.empty, .int .i64 0]] 8 (World.laidAll_os _ _ _)
      (World.shaped_of_ZipB (by kernel_rfl) (by kernel_rfl)) (by kernel_rfl) (by kernel_rfl) (by kernel_rfl)
      (by rw [MakeChecks.laidMetH_plain _ _ _ (by kernel_rfl)]; exact laidMet_laidAll _ (by kernel_rfl) (by kernel_rfl))) ?_
  intro W base args ds gs before hval0 hW hL hsh
  have hval : ∀ (j : Nat) t v, Tryz.f5.params[j]? = some t → args[j]? = some v → Value.okWide Tryz.prog W .any base t v := hval0
  have hW' := hW
  obtain ⟨p, q, hA0, hV, rfl, hfz, hnd⟩ := hW
  have hA : DataW.TrodAll enc Tryz.prog W 0 (fun _ => true) true Tryz.f5.params.toList args.toList ds p := hA0
  rw [Tryz.params5] at hA hval
  obtain ⟨v0, vs0, d0, ds0, p0, q0, hargs, rfl, rfl, h0, r0⟩ := trodAll_cons hA
  obtain ⟨rfl, rfl, rfl⟩ := trodAll_nil r0
  obtain rfl : args = #[v0] := by cases args; simp_all
  obtain ⟨rfl, rfl⟩ := trodVars_none hV
  obtain ⟨cs, rfl⟩ : ∃ cs, v0 = .agg cs := by
    have hk := hval 0 51 v0 rfl rfl
    unfold Value.okWide at hk
    rw [Tryz.underlying51] at hk
    obtain ⟨cs, h1, _⟩ := hk
    exact ⟨cs, h1⟩
  have k0 := h0
  have lt0 : ∀ x ∈ p0, x.block < W.heap.size := by obtain ⟨m, hm⟩ := k0; exact DataW.trod_lt m _ _ _ hm
  obtain ⟨fuel, h0⟩ := h0
  obtain ⟨a0, qa, ra⟩ := tk_51 h0
  have hv : Go.Ab.RD (Go.Ab.LiveB W) W (.agg (Go.Ab.Enc.e a0).cells) (.agg cs) := Go.Ab.agg_rd ra
  clear hA0 hval0
  simp only [List.append_nil] at hW'
  refine (walk _ a0 qa W hv (laidJ hL hsh)).mono fun e W' ⟨he, bel⟩ => ?_
  subst he
  exact ⟨_, rfl, _, _, _, [], _, [], hW', trodAll_mk1 (shut_bool Tryz.underlying4 _), (trodAll_cons_mk (Below.trod laidOut (by kernel_rfl) (of_decide_eq_true (by kernel_rfl)) k0 bel lt0) trodAll_mk0), rfl, bel.frame _, fun h => by cases h⟩

theorem over : Rows.fnExactFormatConsoleRow.holds Tryz.pinned (OpenSpec.ofChange Rows.fnExactFormatConsoleSpec) :=
  OpenClaim.holds_of_wide 5 Tryz.f5 rfl rfl rfl rfl rfl rfl rfl ⟨rfl, rfl, rfl, rfl, rfl⟩ rfl rfl rfl rfl rfl (by kernel_rfl) Tryz.func5 (by kernel_rfl)
    (of_decide_eq_true (by kernel_rfl)) (by unfold Func.isWrapper; first | (rw [if_pos (by decide +kernel)]; kernel_rfl) | (rw [if_neg (by decide +kernel)]; exact ⟨rfl, rfl⟩))
    (fun os started H enc _ => lifted os started H enc)

/-- ████ THE TIED CARD ████ -/
theorem proved : Rows.FnExactFormatConsoleCardSaid :=
  Claim7.holds_tied_plain_at .later [] [.data, .data, .data] true (true, "cac97d5ddcc36fff7c7857693fa6940bed3bc5ca4ba99acb789b84498e318597") false over (fun _ h => by cases h) (by kernel_rfl) (fun _ h => by cases h) fnExactFormatConsole_row_tie rfl ⟨rfl, rfl⟩ (by kernel_rfl) rfl
    (fun f fn hf hfn => by
      obtain rfl : f = 5 := Option.some.inj ((show Tryz.prog.funcNamed "loop.example/g00900/laws.FnExactFormatConsole" = some 5 by kernel_rfl).symm.trans hf) |>.symm
      obtain rfl : fn = Tryz.f5 := (Option.some.inj (Tryz.func5.symm.trans hfn)).symm
      exact ⟨by kernel_rfl, fun j t ht => by
        rw [Tryz.params5] at ht
        have hm : t ∈ [51] := by simpa using Array.mem_of_getElem? ht
        have hall : ([51].all fun u => !Tryz.prog.wantsStandIn u) = true := by kernel_rfl
        exact (show Tryz.prog.wantsStandIn t = false by simpa using List.all_eq_true.1 hall t hm)⟩)
    (by kernel_rfl)
#print axioms proved
end Go.Proofs.YtpdjoidmbaaopaaGreatDoor.fnExactFormatConsole
