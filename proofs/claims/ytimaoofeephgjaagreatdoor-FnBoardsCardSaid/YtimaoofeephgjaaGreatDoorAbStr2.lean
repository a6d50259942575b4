/- My own layer: strings.Split, Join, Repeat, strconv.Itoa by the kit's proofs over any program. -/
import Derived.Test.YtimaoofeephgjaaGreatDoorAbStr
import Derived.Shelf.Strings.Split
import Derived.Shelf.Strings.Repeat
import Derived.Shelf.Strings.OnBuilder
import Derived.Shelf.Strconv.Itoa3
import Derived.Lib.AppendIntMem
set_option linter.unusedVariables false
set_option linter.unusedSimpArgs false
namespace Go.Ab
set_option linter.unusedVariables false
set_option linter.unusedSimpArgs false
open Go.Shelf Go.RowKit Go.Lib Go.Proofs
variable {P : Program} {J : Inv} {ρ : Ren}

noncomputable def splitM (s t : ByteArray) : Option (List ByteArray) := if s.size < 4294967281 ∧ 1 ≤ t.size then some (Lib.splitB t 0 (Lib.countB s t) s) else none
noncomputable def splitS (E : TypeId) : MS (ByteArray × ByteArray) (List ByteArray) := ⟨.x .r .r, fun x => splitM x.1 x.2, fun _ => .own 0, fun y => [arO E y], fun _ _ => []⟩
noncomputable def genSplitM (s t : ByteArray) (sv n : Int) : Option (List ByteArray) := if s.size < 4294967281 ∧ 1 ≤ t.size ∧ 0 ≤ sv ∧ sv ≤ t.size ∧ 1 ≤ n ∧ n ≤ 4294967296 then some (Lib.splitB t sv.toNat (min n.toNat (s.size + 1) - 1) s) else none
noncomputable def genSplitS (E : TypeId) : MS (ByteArray × ByteArray × Int × Int) (List ByteArray) := ⟨.x .r (.x .r (.x .r .r)), fun x => genSplitM x.1 x.2.1 x.2.2.1 x.2.2.2, fun _ => .own 0, fun y => [arO E y], fun _ _ => []⟩
noncomputable def joinM (l : List ByteArray) (t : ByteArray) : Option ByteArray := if (Lib.join (l.map (·.data.toList)) t.data.toList).length ≤ 4294967296 ∧ l.length ≤ 4294967296 then some ⟨(Lib.join (l.map (·.data.toList)) t.data.toList).toArray⟩ else none
noncomputable def joinS : MS (List ByteArray × ByteArray) ByteArray := ⟨.x .r .r, fun x => joinM x.1 x.2, fun y => dV y, fun _ => [], fun _ _ => []⟩
noncomputable def repeatM (s : ByteArray) (n : Int) : Option ByteArray := if 0 ≤ n ∧ (s.size : Int) * n ≤ 4294967296 ∧ n ≤ 4294967296 then some ⟨(Lib.repeatL s.data.toList n.toNat).toArray⟩ else none
noncomputable def repeatS : MS (ByteArray × Int) ByteArray := ⟨.x .r .r, fun x => repeatM x.1 x.2, fun y => dV y, fun _ => [], fun _ _ => []⟩
theorem repeatOK (L : Lays.n105 P ρ) (X : Builder.Extra P ρ) (hc : ∀ args w, (callFunc (ρ.f 105) args).run P w = .ok (.enter (ρ.f 105) args) w) : FnOK P J (ρ.f 105) repeatS.S := by
 refine fnOK_dat hc (fun _ => rfl) (fun _ _ => rfl) (fun _ => rfl) (fun y => nb0_sc _) ?_
 rintro ⟨s, n⟩ y vs w F κ hm hJ hF hargs
 have hm : repeatM s n = some y := hm
 unfold repeatM at hm
 split at hm
 ·rename_i hs
  cases hm
  obtain rfl := rvs_sc (us := [.string s, .int .i64 n]) hargs
  obtain ⟨c, rfl⟩ : ∃ c : Nat, n = c := ⟨n.toNat, by omega⟩
  have hlen : s.size * c ≤ 140737488355328 := by
   have := hs.2.1
   have h2 : ((s.size * c : Nat) : Int) ≤ 4294967296 := by rw [Int.natCast_mul]; exact this
   omega
  refine Calls.mono (Any.strings_Repeat L X s c w (by omega) hlen) ?_
  rintro e w' ⟨rfl, hb⟩
  exact ⟨_, rfl, rv_val rfl, hb⟩
 ·cases hm

noncomputable def itoaM (n : Int) : Option ByteArray := if -9223372036854775808 ≤ n ∧ n ≤ 9223372036854775807 then some ⟨(Lib.itoa n).toArray⟩ else none
noncomputable def itoaS : MS Int ByteArray := ⟨.r, fun x => itoaM x, fun y => dV y, fun _ => [], fun _ _ => []⟩
theorem itoaOK (L : LaysM.n171 P ρ) (hc : ∀ args w, (callFunc (ρ.f 171) args).run P w = .ok (.enter (ρ.f 171) args) w) {g : Nat} (hg : P.globalNamed "internal/strconv.uint64pow10" = some g) : FnOK P (strJ P (some Lib.pow10Tab)) (ρ.f 171) itoaS.S := by
 refine fnOK_dat hc (fun _ => rfl) (fun _ _ => rfl) (fun _ => rfl) (fun y => nb0_sc _) ?_
 rintro n y vs w F κ hm hJ hF hargs
 have hm : itoaM n = some y := hm
 unfold itoaM at hm
 split at hm
 ·rename_i hs
  cases hm
  obtain rfl := rvs_sc (us := [.int .i64 n]) hargs
  refine Calls.mono (Any.strconv_Itoa L n hs.1 hs.2 w (strJ_pw hJ hg)) ?_
  rintro e w' ⟨rfl, k, os, rfl⟩
  exact ⟨_, rfl, rv_val rfl, below_grow w.heap.size w (Nat.le_refl _) k os⟩
 ·cases hm
end Go.Ab
