/- My own layer: strings.Contains, Cut, CutPrefix, CutSuffix, HasPrefix by the kit's proofs over any program. -/
import Derived.Test.YtpdjoidmbaaopaaGreatDoorAbStr
import Derived.Shelf.Strings.Cut
import Derived.Shelf.Strings.Search3
import Derived.Shelf.Strings.Prefix
import Derived.Shelf.Small.Wraps
set_option linter.unusedVariables false
set_option linter.unusedSimpArgs false
namespace Go.Ab
set_option linter.unusedVariables false
set_option linter.unusedSimpArgs false
open Go.Shelf Go.RowKit Go.Lib Go.Proofs
variable {P : Program} {J : Inv} {ρ : Ren}

noncomputable def containsM (s t : ByteArray) : Option Bool := if s.size < 4294967281 then some (Lib.contains s.data.toList t.data.toList) else none
noncomputable def containsS : MS (ByteArray × ByteArray) Bool := ⟨.x .r .r, fun x => containsM x.1 x.2, fun y => dV y, fun _ => [], fun _ _ => []⟩
theorem containsOK {tab : Option (List Int)} (L : Lays.n144 P ρ) (hc : ∀ args w, (callFunc (ρ.f 144) args).run P w = .ok (.enter (ρ.f 144) args) w) (hg : P.globalNamed "internal/bytealg.MaxLen" = some (ρ.g 1)) : FnOK P (strJ P tab) (ρ.f 144) containsS.S := by
  refine fnOK_dat hc (fun _ => rfl) (fun _ _ => rfl) (fun _ => rfl) (fun y => nb0_sc _) ?_
  rintro ⟨s, t⟩ y vs w F κ hm hJ hF hargs
  have hm : containsM s t = some y := hm
  unfold containsM at hm
  split at hm
  · rename_i hs
    cases hm
    obtain rfl := rvs_sc (us := [.string s, .string t]) hargs
    obtain ⟨m, hmx⟩ := strJ_mx hJ hg
    refine Calls.mono (Any.strings_Contains L s t m w hs hmx) ?_
    rintro e w' ⟨rfl, rfl⟩
    exact ⟨_, rfl, rv_val rfl, Below.refl _ _⟩
  · cases hm

noncomputable def cutM (s t : ByteArray) : Option (ByteArray × ByteArray × Bool) := if s.size < 4294967281 then some (⟨(Lib.cut s.data.toList t.data.toList).1.toArray⟩, ⟨(Lib.cut s.data.toList t.data.toList).2.1.toArray⟩, (Lib.cut s.data.toList t.data.toList).2.2) else none
noncomputable def cutS : MS (ByteArray × ByteArray) (ByteArray × ByteArray × Bool) := ⟨.x .r .r, fun x => cutM x.1 x.2, fun y => .tup [dV y.1, dV y.2.1, dV y.2.2], fun _ => [], fun _ _ => []⟩
theorem cutOK {tab : Option (List Int)} (L : Lays.n145 P ρ) (hc : ∀ args w, (callFunc (ρ.f 145) args).run P w = .ok (.enter (ρ.f 145) args) w) (hg : P.globalNamed "internal/bytealg.MaxLen" = some (ρ.g 1)) : FnOK P (strJ P tab) (ρ.f 145) cutS.S := by
  refine fnOK_dat hc (fun _ => rfl) (fun _ _ => rfl) (fun _ => rfl) (fun y => nb0_tup [.string y.1, .string y.2.1, .bool y.2.2]) ?_
  rintro ⟨s, t⟩ y vs w F κ hm hJ hF hargs
  have hm : cutM s t = some y := hm
  unfold cutM at hm
  split at hm
  · rename_i hs
    cases hm
    obtain rfl := rvs_sc (us := [.string s, .string t]) hargs
    obtain ⟨m, hmx⟩ := strJ_mx hJ hg
    refine Calls.mono (Any.strings_Cut L s t m w hs hmx) ?_
    rintro e w' ⟨rfl, n, rfl⟩
    exact ⟨_, rfl, rv_tup (us := [.string _, .string _, .bool _]) rfl, below_drewN _ _ _⟩
  · cases hm

noncomputable def cutPrefixM (s t : ByteArray) : Option (ByteArray × Bool) := some (⟨(Lib.trimPrefix s.data.toList t.data.toList).toArray⟩, Lib.hasPrefix s.data.toList t.data.toList)
noncomputable def cutPrefixS : MS (ByteArray × ByteArray) (ByteArray × Bool) := ⟨.x .r .r, fun x => cutPrefixM x.1 x.2, fun y => .tup [dV y.1, dV y.2], fun _ => [], fun _ _ => []⟩
theorem cutPrefixOK (L : Lays.n103 P ρ) (hc : ∀ args w, (callFunc (ρ.f 103) args).run P w = .ok (.enter (ρ.f 103) args) w) : FnOK P J (ρ.f 103) cutPrefixS.S := by
  refine fnOK_dat hc (fun _ => rfl) (fun _ _ => rfl) (fun _ => rfl) (fun y => nb0_tup [.string y.1, .bool y.2]) ?_
  rintro ⟨s, t⟩ y vs w F κ hm hJ hF hargs
  have hm : cutPrefixM s t = some y := hm
  cases hm
  obtain rfl := rvs_sc (us := [.string s, .string t]) hargs
  refine Calls.mono (Any.strings_CutPrefix L s t w) ?_
  rintro e w' ⟨rfl, rfl⟩
  exact ⟨_, rfl, rv_tup (us := [.string _, .bool _]) rfl, Below.refl _ _⟩

noncomputable def cutSuffixM (s t : ByteArray) : Option (ByteArray × Bool) := if s.size ≤ 9223372036854775807 then some (⟨(Lib.trimSuffix s.data.toList t.data.toList).toArray⟩, Lib.hasSuffix s.data.toList t.data.toList) else none
noncomputable def cutSuffixS : MS (ByteArray × ByteArray) (ByteArray × Bool) := ⟨.x .r .r, fun x => cutSuffixM x.1 x.2, fun y => .tup [dV y.1, dV y.2], fun _ => [], fun _ _ => []⟩
theorem cutSuffixOK (L : Lays.n104 P ρ) (hc : ∀ args w, (callFunc (ρ.f 104) args).run P w = .ok (.enter (ρ.f 104) args) w) : FnOK P J (ρ.f 104) cutSuffixS.S := by
  refine fnOK_dat hc (fun _ => rfl) (fun _ _ => rfl) (fun _ => rfl) (fun y => nb0_tup [.string y.1, .bool y.2]) ?_
  rintro ⟨s, t⟩ y vs w F κ hm hJ hF hargs
  have hm : cutSuffixM s t = some y := hm
  unfold cutSuffixM at hm
  split at hm
  · rename_i hs
    cases hm
    obtain rfl := rvs_sc (us := [.string s, .string t]) hargs
    refine Calls.mono (Any.strings_CutSuffix L s t w hs) ?_
    rintro e w' ⟨rfl, rfl⟩
    exact ⟨_, rfl, rv_tup (us := [.string _, .bool _]) rfl, Below.refl _ _⟩
  · cases hm

noncomputable def hasPrefixM (s t : ByteArray) : Option Bool := some (Lib.hasPrefix s.data.toList t.data.toList)
noncomputable def hasPrefixS : MS (ByteArray × ByteArray) Bool := ⟨.x .r .r, fun x => hasPrefixM x.1 x.2, fun y => dV y, fun _ => [], fun _ _ => []⟩
theorem hasPrefixOK (L : Lays.n99 P ρ) (hc : ∀ args w, (callFunc (ρ.f 99) args).run P w = .ok (.enter (ρ.f 99) args) w) : FnOK P J (ρ.f 99) hasPrefixS.S := by
  refine fnOK_dat hc (fun _ => rfl) (fun _ _ => rfl) (fun _ => rfl) (fun y => nb0_sc _) ?_
  rintro ⟨s, t⟩ y vs w F κ hm hJ hF hargs
  have hm : hasPrefixM s t = some y := hm
  cases hm
  obtain rfl := rvs_sc (us := [.string s, .string t]) hargs
  refine Calls.mono (Any.strings_HasPrefix L s t w) ?_
  rintro e w' ⟨rfl, rfl⟩
  exact ⟨_, rfl, rv_val rfl, Below.refl _ _⟩
end Go.Ab
