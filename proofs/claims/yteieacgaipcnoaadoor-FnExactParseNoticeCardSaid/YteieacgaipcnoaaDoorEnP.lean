/- The law FnExactParseNotice: for every slice of bytes the Go function returns true and leaves what was there as it was. No condition. -/
import Derived.Test.YteieacgaipcnoaaDoorRows
import Derived.Test.YteieacgaipcnoaaDoorTie
import Derived.Test.YteieacgaipcnoaaDoorCards
import Derived.Test.YteieacgaipcnoaaDoorAbCard
import Derived.WalkKit
import Derived.ProofKit
import Derived.OpenShut
import Derived.ShutString
import Derived.ChangeOld
import Derived.Below
import Derived.Test.YteieacgaipcnoaaDoorAbLaw
import Derived.Test.YteieacgaipcnoaaDoorEnW1
import Derived.Test.YteieacgaipcnoaaDoorEnL
namespace Go.Proofs.YteieacgaipcnoaaDoor.fnExactParseNotice
open Go.ChangeShapes Go.WideShapes Go.ChangeAt Go.RowKit
open Go.ChangeMaps (open_string shut_string)
set_option linter.unusedVariables false      -- a walk need not use every 'w<i>' (that an integer argument fits its kind)

theorem own : ownKnob Tryd.prog.godebug = none := by kernel_rfl

/-! ### STEP 1: THE WALK: the Go text returns true. 'Grown w w'': the world has at most new blocks (Derived/RowKit3.lean). Part the cases AHEAD of 'go_enter' where a test parts the walk; take each callee by a contract of your own. -/
theorem walk (a0 : ByteArray) (w : World) (hJ : tJ.ok w) :
    Calls Tryd.prog 4 #[.string a0] w fun e w' => e = .returned (.bool true) ∧ Below w.heap.size w w' :=
  Go.Ab.law_walkS v_FnExactParseNotice_ok noticex_true a0 w hJ (Go.Ab.strJ_z hJ)

/-! ### THE ROW's STEP: WRITTEN OUT: LEAVE IT -/
/-- What the listed variables and the shape of the world give the walk. -/
theorem laidJ {W : World} (hX : laidMetH Tryd.prog Rows.fnExactParseNoticeRow.laid W) (hsh : W.ShapedOpen Tryd.prog) : tJ.ok W := by
  refine ⟨fun g hg => ?_, fun g hg l hl => ?_⟩
  · obtain rfl : 0 = g := Option.some.inj ((show Tryd.prog.globalNamed "internal/bytealg.MaxLen" = some 0 by kernel_rfl).symm.trans hg)
    exact Go.Proofs.cell_of_shapedOpen_int (zero := #[.int .i64 0]) (t := 3) hsh (of_decide_eq_true (by kernel_rfl)) (by kernel_rfl) rfl (by kernel_rfl) (by kernel_rfl) Tryd.underlying3
  · cases hl
    have h0 : laidMet Tryd.prog Rows.fnExactParseNoticeRow.laid W := (MakeChecks.laidMetH_plain _ _ _ (by kernel_rfl)) ▸ hX
    have h1 := laidMet.tail h0
    have h2 := laidMet.tail h1
    exact Lib.tabIs_of_head (show Tryd.prog.globalNamed "internal/strconv.uint64pow10" = some 1 by kernel_rfl) (by kernel_rfl) Tryd.underlying80 Tryd.underlying72 (by kernel_rfl) (by kernel_rfl) (show laidMet Tryd.prog (("internal/strconv.uint64pow10", Lib.tabData .u64 Lib.pow10Tab) :: _) W from h2)

set_option maxRecDepth 100000 in
theorem lifted (os : Os) (started : os.Started) (H : Type) (enc : TypeId × Value → H) :
    ReturnsInHanded {} Tryd.checked os 4 .any (fun w args => (Rows.fnExactParseNoticeSpec.pre enc Tryd.prog Tryd.f4 Rows.fnExactParseNoticeRow.domain false w args ∧ laidMetH Tryd.prog Rows.fnExactParseNoticeRow.laid w) ∧ sizedMet enc Tryd.prog Tryd.f4 (OpenSpec.ofChange Rows.fnExactParseNoticeSpec) false w args) (Rows.fnExactParseNoticeSpec.post enc Tryd.prog Tryd.f4 false true false false) := by
  refine Go.Ab.returns_tied (C := Tryd.checked) (X := fun w _ => laidMetH Tryd.prog Rows.fnExactParseNoticeRow.laid w) (fun _ _ _ hh h => h.of_heap hh) own started (by kernel_rfl) Tryd.func4
    (ChangeSpec.witness_shaped (enc := enc) (C := Tryd.checked) (os := os) (X := fun w _ => laidMetH Tryd.prog Rows.fnExactParseNoticeRow.laid w) false (World.laidAll Tryd.prog os Rows.fnExactParseNoticeRow.laid) #[.string ByteArray.empty] 8 (World.laidAll_os _ _ _)
      (World.shaped_of_ZipB (by kernel_rfl) (by kernel_rfl)) (by kernel_rfl) (by kernel_rfl) (by kernel_rfl)
      (by rw [MakeChecks.laidMetH_plain _ _ _ (by kernel_rfl)]; exact laidMet_laidAll _ (by kernel_rfl) (by kernel_rfl))) ?_
  intro W base args ds gs before hval0 hW hL hsh
  have hval : ∀ (j : Nat) t v, Tryd.f4.params[j]? = some t → args[j]? = some v → Value.okWide Tryd.prog W .any base t v := hval0
  have hW' := hW
  obtain ⟨p, q, hA0, hV, rfl, hfz, hnd⟩ := hW
  have hA : DataW.TrodAll enc Tryd.prog W 0 (fun _ => true) true Tryd.f4.params.toList args.toList ds p := hA0
  rw [Tryd.params4] at hA hval
  obtain ⟨v0, vs0, d0, ds0, p0, q0, hargs, rfl, rfl, h0, r0⟩ := trodAll_cons hA
  obtain ⟨rfl, rfl, rfl⟩ := trodAll_nil r0
  obtain rfl : args = #[v0] := by cases args; simp_all
  obtain ⟨rfl, rfl⟩ := trodVars_none hV
  obtain ⟨a0, rfl, rfl, rfl, w0⟩ := open_string Tryd.underlying9 (hval 0 9 v0 rfl rfl) h0
  clear hA0 hval0
  simp only [List.append_nil] at hW'
  refine (walk a0 W (laidJ hL hsh)).mono fun e W' ⟨he, bel⟩ => ?_
  subst he
  exact ⟨_, rfl, _, _, _, [], _, [], hW', trodAll_mk1 (shut_bool Tryd.underlying4 _), (trodAll_cons_mk (shut_string Tryd.underlying9 w0) trodAll_mk0), rfl, bel.frame _, fun h => by cases h⟩

theorem over : Rows.fnExactParseNoticeRow.holds Tryd.pinned (OpenSpec.ofChange Rows.fnExactParseNoticeSpec) :=
  OpenClaim.holds_of_wide 4 Tryd.f4 rfl rfl rfl rfl rfl rfl rfl ⟨rfl, rfl, rfl, rfl, rfl⟩ rfl rfl rfl rfl rfl (by kernel_rfl) Tryd.func4 (by kernel_rfl)
    (of_decide_eq_true (by kernel_rfl)) (by unfold Func.isWrapper; first | (rw [if_pos (by decide +kernel)]; kernel_rfl) | (rw [if_neg (by decide +kernel)]; exact ⟨rfl, rfl⟩))
    (fun os started H enc _ => lifted os started H enc)

/-- ████ THE TIED CARD ████ -/
theorem proved : Rows.FnExactParseNoticeCardSaid :=
  Claim7.holds_tied_plain_at .later [] [.data, .data, .data, .data, .pinned] true (true, "d31d25985bd641f2072019323469343fe914edeb2be2fb635d4a7e5c9a896b9d") false over (fun _ h => by cases h) (by kernel_rfl) (fun _ h => by cases h) fnExactParseNotice_row_tie rfl ⟨rfl, rfl⟩ (by kernel_rfl) rfl
    (fun f fn hf hfn => by
      obtain rfl : f = 4 := Option.some.inj ((show Tryd.prog.funcNamed "loop.example/g00900/laws.FnExactParseNotice" = some 4 by kernel_rfl).symm.trans hf) |>.symm
      obtain rfl : fn = Tryd.f4 := (Option.some.inj (Tryd.func4.symm.trans hfn)).symm
      exact ⟨by kernel_rfl, fun j t ht => by
        rw [Tryd.params4] at ht
        have hm : t ∈ [9] := by simpa using Array.mem_of_getElem? ht
        have hall : ([9].all fun u => !Tryd.prog.wantsStandIn u) = true := by kernel_rfl
        exact (show Tryd.prog.wantsStandIn t = false by simpa using List.all_eq_true.1 hall t hm)⟩)
    (by kernel_rfl)
#print axioms proved
end Go.Proofs.YteieacgaipcnoaaDoor.fnExactParseNotice
