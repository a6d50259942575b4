/- The law FnExactNewConsole: for every slice of bytes the Go function returns true and leaves what was there as it was. No condition. -/
import Derived.Test.YtjahononbnbjnaaRows
import Derived.WalkKit
import Derived.ProofKit
import Derived.OpenShut
import Derived.ShutString
import Derived.ChangeOld
import Derived.Below
import Derived.Carry
import Derived.Test.YtjahononbnbjnaaAbLaw
import Derived.Test.YtjahononbnbjnaaAbArg
import Derived.Test.YtjahononbnbjnaaNcW1
import Derived.Test.YtjahononbnbjnaaNcL
namespace Go.Proofs.Ytjahononbnbjnaa.fnExactNewConsole
open Go.ChangeShapes Go.WideShapes Go.ChangeAt Go.RowKit
set_option linter.unusedVariables false

theorem own : ownKnob Try.prog.godebug = none := by kernel_rfl
theorem laidOut : laidOutB Try.prog = true := by kernel_rfl

/-! What the argument reads is a datum of the model's type. -/
section
open Go.Ab
def tkq_Line : Line → Prop := fun a : Line => QS a.Name ∧ (QL QI) a.Stops ∧ (QL QI) a.Runs
theorem tk_241 : Tk Try.prog Line tkq_Line 241 := by
  intro H enc w fuel cs x h
  obtain ⟨xs, m, rfl, hx, hl, hn, hf⟩ := DataW.trod_struct Try.underlying241 h
  have g0 := hf 0 _ rfl
  have g1 := hf 1 _ rfl
  have g2 := hf 2 _ rfl
  obtain ⟨a0, q0, r0⟩ := tk_part 0 1 (tk_str Try.underlying9) rfl (by kernel_rfl) g0 (by rw [hn]; exact of_decide_eq_true rfl)
  obtain ⟨a1, q1, r1⟩ := tk_part 1 1 (tk_slice Try.underlying24 (by kernel_rfl) (by decide) (tk_int Try.underlying3)) rfl (by kernel_rfl) g1 (by rw [hn]; exact of_decide_eq_true rfl)
  obtain ⟨a2, q2, r2⟩ := tk_part 2 1 (tk_slice Try.underlying24 (by kernel_rfl) (by decide) (tk_int Try.underlying3)) rfl (by kernel_rfl) g2 (by rw [hn]; exact of_decide_eq_true rfl)
  have hc : Try.prog.cellsOf 241 = 3 := by kernel_rfl
  have hh : RC (LiveB w) w ((Enc.e a0).cells ++ ((Enc.e a1).cells ++ ((Enc.e a2).cells ++ ([])))) (cs.drop 0) := RC.part r0 (RC.part r1 (RC.part r2 (RC.fin (by omega))))
  exact ⟨⟨a0, a1, a2⟩, ⟨q0, q1, q2⟩, hh⟩
def tkq_Network : Network → Prop := fun a : Network => (QL QS) a.Stops ∧ (QL tkq_Line) a.Lines
theorem tk_53 : Tk Try.prog Network tkq_Network 53 := by
  intro H enc w fuel cs x h
  obtain ⟨xs, m, rfl, hx, hl, hn, hf⟩ := DataW.trod_struct Try.underlying53 h
  have g0 := hf 0 _ rfl
  have g1 := hf 1 _ rfl
  obtain ⟨a0, q0, r0⟩ := tk_part 0 1 (tk_slice Try.underlying50 (by kernel_rfl) (by decide) (tk_str Try.underlying9)) rfl (by kernel_rfl) g0 (by rw [hn]; exact of_decide_eq_true rfl)
  obtain ⟨a1, q1, r1⟩ := tk_part 1 1 (tk_slice Try.underlying51 (by kernel_rfl) (by decide) tk_241) rfl (by kernel_rfl) g1 (by rw [hn]; exact of_decide_eq_true rfl)
  have hc : Try.prog.cellsOf 53 = 2 := by kernel_rfl
  have hh : RC (LiveB w) w ((Enc.e a0).cells ++ ((Enc.e a1).cells ++ ([]))) (cs.drop 0) := RC.part r0 (RC.part r1 (RC.fin (by omega)))
  exact ⟨⟨a0, a1⟩, ⟨q0, q1⟩, hh⟩
def tkq_Trip : Trip → Prop := fun a : Trip => QI a.Id ∧ QI a.Line ∧ QI a.Start
theorem tk_210 : Tk Try.prog Trip tkq_Trip 210 := by
  intro H enc w fuel cs x h
  obtain ⟨xs, m, rfl, hx, hl, hn, hf⟩ := DataW.trod_struct Try.underlying210 h
  have g0 := hf 0 _ rfl
  have g1 := hf 1 _ rfl
  have g2 := hf 2 _ rfl
  obtain ⟨a0, q0, r0⟩ := tk_part 0 1 (tk_int Try.underlying3) rfl (by kernel_rfl) g0 (by rw [hn]; exact of_decide_eq_true rfl)
  obtain ⟨a1, q1, r1⟩ := tk_part 1 1 (tk_int Try.underlying3) rfl (by kernel_rfl) g1 (by rw [hn]; exact of_decide_eq_true rfl)
  obtain ⟨a2, q2, r2⟩ := tk_part 2 1 (tk_int Try.underlying3) rfl (by kernel_rfl) g2 (by rw [hn]; exact of_decide_eq_true rfl)
  have hc : Try.prog.cellsOf 210 = 3 := by kernel_rfl
  have hh : RC (LiveB w) w ((Enc.e a0).cells ++ ((Enc.e a1).cells ++ ((Enc.e a2).cells ++ ([])))) (cs.drop 0) := RC.part r0 (RC.part r1 (RC.part r2 (RC.fin (by omega))))
  exact ⟨⟨a0, a1, a2⟩, ⟨q0, q1, q2⟩, hh⟩
def tkq_Timetable : Timetable → Prop := fun a : Timetable => tkq_Network a.Network ∧ (QL tkq_Trip) a.Trips
theorem tk_56 : Tk Try.prog Timetable tkq_Timetable 56 := by
  intro H enc w fuel cs x h
  obtain ⟨xs, m, rfl, hx, hl, hn, hf⟩ := DataW.trod_struct Try.underlying56 h
  have g0 := hf 0 _ rfl
  have g1 := hf 1 _ rfl
  obtain ⟨a0, q0, r0⟩ := tk_part 0 2 tk_53 rfl (by kernel_rfl) g0 (by rw [hn]; exact of_decide_eq_true rfl)
  obtain ⟨a1, q1, r1⟩ := tk_part 2 1 (tk_slice Try.underlying54 (by kernel_rfl) (by decide) tk_210) rfl (by kernel_rfl) g1 (by rw [hn]; exact of_decide_eq_true rfl)
  have hc : Try.prog.cellsOf 56 = 3 := by kernel_rfl
  have hh : RC (LiveB w) w ((Enc.e a0).cells ++ ((Enc.e a1).cells ++ ([]))) (cs.drop 0) := RC.part r0 (RC.part r1 (RC.fin (by omega)))
  exact ⟨⟨a0, a1⟩, ⟨q0, q1⟩, hh⟩
end

/-! The walk: the Go text returns true and writes nothing that was there. -/
theorem walk (v0 : Value) (a0 : Timetable) (q0 : tkq_Timetable a0) (w : World) (hv : Go.Ab.RD (Go.Ab.LiveB w) w (Go.Ab.Enc.e a0) v0) (hJ : tJ.ok w) :
    Calls Try.prog 4 #[v0] w fun e w' => e = .returned (.bool true) ∧ Below w.heap.size w w' :=
  Go.Ab.law_walkD (Q := tkq_Timetable) v_FnExactNewConsole_ok (fun x hx => newconsole_true x hx) v0 a0 q0 w hv hJ (fun _ h => h.elim)

/-! The row. -/
set_option maxRecDepth 100000 in
theorem lifted (os : Os) (started : os.Started) (H : Type) (enc : TypeId × Value → H) :
    ReturnsInHanded {} Try.checked os 4 .any (Rows.fnExactNewConsoleSpec.pre6 enc Try.prog Try.f4 Rows.fnExactNewConsoleRow.domain false) (Rows.fnExactNewConsoleSpec.post enc Try.prog Try.f4 false true false false) := by
  refine returnsInHanded_of_change (C := Try.checked) own started (by kernel_rfl) Try.func4
    (ChangeSpec.witness6 (enc := enc) (C := Try.checked) false ⟨#[], #[.agg #[.slice none 0 0, .slice none 0 0, .slice none 0 0]], []⟩ 8 (by kernel_rfl) (by kernel_rfl) (by kernel_rfl) (by kernel_rfl)) ?_
  intro W base args ds gs before hval0 hW hcnd _
  have hval : ∀ (j : Nat) t v, Try.f4.params[j]? = some t → args[j]? = some v → Value.okWide Try.prog W .any base t v := hval0
  have hW' := hW
  obtain ⟨p, q, hA0, hV, rfl, hfz, hnd⟩ := hW
  have hA : DataW.TrodAll enc Try.prog W 0 (fun _ => true) true Try.f4.params.toList args.toList ds p := hA0
  rw [Try.params4] at hA hval
  obtain ⟨v0, vs0, d0, ds0, p0, q0, hargs, rfl, rfl, h0, r0⟩ := trodAll_cons hA
  obtain ⟨rfl, rfl, rfl⟩ := trodAll_nil r0
  obtain rfl : args = #[v0] := by cases args; simp_all
  obtain ⟨rfl, rfl⟩ := trodVars_none hV
  obtain ⟨cs, rfl⟩ : ∃ cs, v0 = .agg cs := by
    have hk := hval 0 56 v0 rfl rfl
    unfold Value.okWide at hk
    rw [Try.underlying56] at hk
    obtain ⟨cs, h1, _⟩ := hk
    exact ⟨cs, h1⟩
  have k0 := h0
  have lt0 : ∀ x ∈ p0, x.block < W.heap.size := by obtain ⟨m, hm⟩ := k0; exact DataW.trod_lt m _ _ _ hm
  obtain ⟨fuel, h0⟩ := h0
  obtain ⟨a0, qa, ra⟩ := tk_56 h0
  have hv : Go.Ab.RD (Go.Ab.LiveB W) W (.agg (Go.Ab.Enc.e a0).cells) (.agg cs) := Go.Ab.agg_rd ra
  clear hA0 hval0
  simp only [List.append_nil] at hW'
  refine (walk _ a0 qa W hv (by trivial)).mono fun e W' ⟨he, bel⟩ => ?_
  subst he
  exact ⟨_, rfl, _, _, _, [], _, [], hW', trodAll_mk1 (shut_bool Try.underlying4 _), (trodAll_cons_mk (Below.trod laidOut (by kernel_rfl) (of_decide_eq_true (by kernel_rfl)) k0 bel lt0) trodAll_mk0), rfl, bel.frame _, fun h => by cases h⟩

theorem over : Rows.fnExactNewConsoleRow.holds Try.pinned (OpenSpec.ofChange Rows.fnExactNewConsoleSpec) :=
  OpenClaim.holds_of_wide 4 Try.f4 rfl rfl rfl rfl rfl rfl rfl ⟨rfl, rfl, rfl, rfl, rfl⟩ rfl rfl rfl rfl rfl (by kernel_rfl) Try.func4 (by kernel_rfl)
    (of_decide_eq_true (by kernel_rfl)) (by unfold Func.isWrapper; first | (rw [if_pos (by decide +kernel)]; kernel_rfl) | (rw [if_neg (by decide +kernel)]; exact ⟨rfl, rfl⟩))
    (fun os started H enc _ => lifted os started H enc)

/-- ████ THE STATEMENT ████ -/
theorem proved : Rows.FnExactNewConsoleSaid := over
#print axioms proved
end Go.Proofs.Ytjahononbnbjnaa.fnExactNewConsole
