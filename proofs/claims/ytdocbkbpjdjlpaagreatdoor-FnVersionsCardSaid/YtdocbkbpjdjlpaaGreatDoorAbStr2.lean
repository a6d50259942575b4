/- My own layer: strings.Split, Join, Repeat, strconv.Itoa by the kit's proofs over any program. -/
import Derived.Test.YtdocbkbpjdjlpaaGreatDoorAbStr
import Derived.Shelf.Strings.Split
import Derived.Shelf.Strings.Repeat
import Derived.Shelf.Strings.OnBuilder
import Derived.Shelf.Strconv.Itoa3
import Derived.Lib.AppendIntMem
set_option linter.unusedVariables false
set_option linter.unusedSimpArgs false
namespace Go.Ab
set_option linter.unusedVariables false
set_option linter.unusedSimpArgs false
open Go.Shelf Go.RowKit Go.Lib Go.Proofs
variable {P : Program} {J : Inv} {ρ : Ren}

noncomputable def jpz (n : Int) : Option ByteArray := if -9223372036854775808 <= n /\ n <= 9223372036854775807 then some ⟨(Lib.itoa n).toArray⟩ else none
noncomputable def juy : MS Int ByteArray := ⟨.r, fun x => jpz x, fun y => dV y, fun _ => [], fun _ _ => []⟩
theorem jt9 (L : LaysM.n171 P ρ) (hc : ∀ args w, (callFunc (ρ.f 171) args).run P w = .ok (.enter (ρ.f 171) args) w) {g : Nat} (hg : P.globalNamed "internal/strconv.uint64pow10" = some g) : FnOK P (strJ P (some Lib.pow10Tab)) (ρ.f 171) juy.S := by
 refine jrx hc (fun _ => rfl) (fun _ _ => rfl) (fun _ => rfl) (fun y => jmz _) ?_
 rintro n y vs w F κ hm hJ hF hargs
 have hm : jpz n = some y := hm
 unfold jpz at hm
 split at hm
 ·rename_i hs
  cases hm
  obtain rfl := jmt (us := [.int .i64 n]) hargs
  refine Calls.mono (Any.strconv_Itoa L n hs.1 hs.2 w (jsv hJ hg)) ?_
  rintro e w' ⟨rfl, k, os, rfl⟩
  exact ⟨_, rfl, jo8 rfl, below_grow w.heap.size w (Nat.le_refl _) k os⟩
 ·cases hm
end Go.Ab
