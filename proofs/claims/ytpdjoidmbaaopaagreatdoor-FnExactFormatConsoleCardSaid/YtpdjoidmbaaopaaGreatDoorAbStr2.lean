/- My own layer: strings.Split, Join, Repeat, strconv.Itoa by the kit's proofs over any program. -/
import Derived.Test.YtpdjoidmbaaopaaGreatDoorAbStr
import Derived.Shelf.Strings.Split
import Derived.Shelf.Strings.Repeat
import Derived.Shelf.Strings.OnBuilder
import Derived.Shelf.Strconv.Itoa3
import Derived.Lib.AppendIntMem
set_option linter.unusedVariables false
set_option linter.unusedSimpArgs false
namespace Go.Ab
set_option linter.unusedVariables false
set_option linter.unusedSimpArgs false
open Go.Shelf Go.RowKit Go.Lib Go.Proofs
variable {P : Program} {J : Inv} {ρ : Ren}

theorem str_re {F : Nat → Prop} {w : World} : ∀ (a : List ByteArray), RE F w 1 (a.map Enc.e) (a.map Value.string)
  | [] => by unfold RE; rfl
  | x :: a => by
    rw [List.map_cons, List.map_cons]
    unfold RE
    refine ⟨[Value.string x], a.map Value.string, rfl, rfl, ?_, str_re a⟩
    show ∃ y, [Value.string x] = [y] ∧ one y = true ∧ RD F w (.sc (.string x)) y
    refine ⟨_, rfl, rfl, ?_⟩
    unfold RD
    exact ⟨rfl, rfl⟩
theorem re_str {F : Nat → Prop} {w : World} : ∀ {a : List ByteArray} {us : List Value}, RE F w 1 (a.map Enc.e) us → us = a.map Value.string
  | [], us, h => by
    unfold RE at h
    simpa using h
  | x :: a, us, h => by
    rw [List.map_cons] at h
    unfold RE at h
    obtain ⟨u, us', rfl, _, h1, h2⟩ := h
    have h3 : ∃ y, u = [y] ∧ one y = true ∧ RD F w (.sc (.string x)) y := h1
    obtain ⟨y, rfl, _, h4⟩ := h3
    unfold RD at h4
    obtain ⟨rfl, _⟩ := h4
    rw [re_str h2]; rfl
theorem own_new (w : World) (E : TypeId) (cs : List Value) (n : Nat) (hn : n = cs.length) (hmax : n ≤ maxLen) : Own (w.alloc (.cells cs.toArray E)) E 1 (.slice (some ⟨w.heap.size, 0, none⟩) n n) n cs := by
  subst hn
  refine ⟨by simp, .inr ⟨w.heap.size, 0, cs.length, cs.toArray, rfl, ⟨_, _, heap_alloc_new w _, .inl rfl⟩, Nat.le_refl _, hmax, by simp, by simp⟩⟩

/-- The parts between separators. -/
noncomputable def splitM (s t : ByteArray) : Option (List ByteArray) := if s.size < 4294967281 ∧ 1 ≤ t.size then some (Lib.splitB t 0 (Lib.countB s t) s) else none
noncomputable def splitS (E : TypeId) : MS (ByteArray × ByteArray) (List ByteArray) := ⟨.x .r .r, fun x => splitM x.1 x.2, fun _ => .own 0, fun y => [arO E y], fun _ _ => []⟩
theorem splitOK {tab : Option (List Int)} (L : Lays.n146 P ρ) (hi9 : (P.info? (ρ.t 9)).map (fun i => (i.zero, i.size, i.bytes)) = some (some (.string ByteArray.empty), 1, 16)) (hc : ∀ args w, (callFunc (ρ.f 146) args).run P w = .ok (.enter (ρ.f 146) args) w) (hg : P.globalNamed "internal/bytealg.MaxLen" = some (ρ.g 1)) : FnOK P (strJ P tab) (ρ.f 146) (splitS (ρ.t 9)).S := by
  refine fnOK_new (E := ρ.t 9) (g := fun y => y) hc (fun _ => rfl) (fun _ => rfl) (fun _ _ => rfl) (fun _ => rfl) ?_
  rintro ⟨s, t⟩ y vs w F κ hm hJ hF hargs
  have hm : splitM s t = some y := hm
  unfold splitM at hm
  split at hm
  · rename_i hs
    cases hm
    obtain rfl := rvs_sc (us := [.string s, .string t]) hargs
    obtain ⟨m, hmx⟩ := strJ_mx hJ hg
    refine Calls.mono (Any.strings_Split L hi9 s t m w hs.1 hmx hs.2) ?_
    have hle := Lib.countB_le t hs.2 s.size s (Nat.le_refl _)
    have hlen := Lib.splitB_all t hs.2 0 _ s rfl
    rintro e w' ⟨rfl, rfl⟩
    refine ⟨_, _, rfl, ?_, str_re _, rfl, by decide, Below.alloc (Below.refl _ _) (Nat.le_refl _) _⟩
    rw [hlen]
    exact own_new w (ρ.t 9) ((Lib.splitB t 0 (Lib.countB s t) s).map Value.string) _ (by rw [List.length_map, hlen]) (by unfold maxLen; omega)
  · cases hm

/-- The parts with what ends them, n at most. -/
noncomputable def genSplitM (s t : ByteArray) (sv n : Int) : Option (List ByteArray) := if s.size < 4294967281 ∧ 1 ≤ t.size ∧ 0 ≤ sv ∧ sv ≤ t.size ∧ 1 ≤ n ∧ n ≤ 4294967296 then some (Lib.splitB t sv.toNat (min n.toNat (s.size + 1) - 1) s) else none
noncomputable def genSplitS (E : TypeId) : MS (ByteArray × ByteArray × Int × Int) (List ByteArray) := ⟨.x .r (.x .r (.x .r .r)), fun x => genSplitM x.1 x.2.1 x.2.2.1 x.2.2.2, fun _ => .own 0, fun y => [arO E y], fun _ _ => []⟩
theorem genSplitOK {tab : Option (List Int)} (L : Lays.n221 P ρ) (hi9 : (P.info? (ρ.t 9)).map (fun i => (i.zero, i.size, i.bytes)) = some (some (.string ByteArray.empty), 1, 16)) (hc : ∀ args w, (callFunc (ρ.f 221) args).run P w = .ok (.enter (ρ.f 221) args) w) (hg : P.globalNamed "internal/bytealg.MaxLen" = some (ρ.g 1)) : FnOK P (strJ P tab) (ρ.f 221) (genSplitS (ρ.t 9)).S := by
  refine fnOK_new (E := ρ.t 9) (g := fun y => y) hc (fun _ => rfl) (fun _ => rfl) (fun _ _ => rfl) (fun _ => rfl) ?_
  rintro ⟨s, t, sv, n⟩ y vs w F κ hm hJ hF hargs
  have hm : genSplitM s t sv n = some y := hm
  unfold genSplitM at hm
  split at hm
  · rename_i hs
    obtain ⟨h1, h2, h3, h4, h5, h6⟩ := hs
    cases hm
    obtain rfl := rvs_sc (us := [.string s, .string t, .int .i64 sv, .int .i64 n]) hargs
    obtain ⟨m, hmx⟩ := strJ_mx hJ hg
    obtain ⟨v, rfl⟩ : ∃ v : Nat, sv = v := ⟨sv.toNat, by omega⟩
    have hN : ((min n.toNat (s.size + 1) : Nat) : Int) = min (if n < 0 then (Lib.countB s t : Int) + 1 else n) ((s.size : Int) + 1) := by
      rw [if_neg (by omega)]; omega
    refine Calls.mono (Any.strings_genSplit L hi9 s t v n (min n.toNat (s.size + 1)) m w h1 hmx h2 (by omega) (by omega) (by omega) hN) ?_
    rintro e w' ⟨rfl, rfl⟩
    have hv : (v : Int).toNat = v := by omega
    rw [hv]
    have hlen := Lib.splitB_length_le t v (min n.toNat (s.size + 1) - 1) s
    have hle : (Lib.splitB t v (min n.toNat (s.size + 1) - 1) s).length ≤ min n.toNat (s.size + 1) := by omega
    refine ⟨_, (Lib.splitB t v (min n.toNat (s.size + 1) - 1) s).map Value.string, rfl, ⟨by show _ = _ * 1; simp, .inr ⟨w.heap.size, 0, _, _, rfl, ⟨_, _, heap_alloc_new w _, .inl rfl⟩, hle, by unfold maxLen; omega, ?_, ?_⟩⟩, str_re _, rfl, by decide, Below.alloc (Below.refl _ _) (Nat.le_refl _) _⟩
    · rw [Lib.cellsOf_size hle]
      show 0 + _ * 1 ≤ _
      omega
    · show ((Lib.cellsOf _ _).toList.drop 0).take (_ * 1) = _
      rw [Nat.mul_one, List.drop_zero]
      unfold Lib.cellsOf
      rw [List.toList_toArray]
      exact List.take_left' (by simp)
  · cases hm

/-- Texts with a separator between them. -/
noncomputable def joinM (l : List ByteArray) (t : ByteArray) : Option ByteArray := if (Lib.join (l.map (·.data.toList)) t.data.toList).length ≤ 4294967296 ∧ l.length ≤ 4294967296 then some ⟨(Lib.join (l.map (·.data.toList)) t.data.toList).toArray⟩ else none
noncomputable def joinS : MS (List ByteArray × ByteArray) ByteArray := ⟨.x .r .r, fun x => joinM x.1 x.2, fun y => dV y, fun _ => [], fun _ _ => []⟩
theorem joinOK (L : Lays.n156 P ρ) (X : Builder.Extra P ρ) (hc : ∀ args w, (callFunc (ρ.f 156) args).run P w = .ok (.enter (ρ.f 156) args) w) : FnOK P J (ρ.f 156) joinS.S := by
  refine fnOK_dat hc (fun _ => rfl) (fun _ _ => rfl) (fun _ => rfl) (fun y => nb0_sc _) ?_
  rintro ⟨l, t⟩ y vs w F κ hm hJ hF hargs
  have hm : joinM l t = some y := hm
  unfold joinM at hm
  split at hm
  · rename_i hs
    cases hm
    have hargs : RVs κ F w [.dat (.sl 1 (l.map Enc.e)), .dat (.sc (.string t))] vs := hargs
    unfold RVs at hargs
    obtain ⟨v0, r1, rfl, k0, hargs⟩ := hargs
    obtain rfl := rvs_sc (us := [.string t]) hargs
    unfold RV RD at k0
    obtain ⟨a, cap, rfl, k1, k2, k3, k4⟩ := k0
    rw [List.length_map] at k1 k4 ⊢
    rcases k4 with k4 | ⟨b, off, us, rfl, kF, kl, kc, kr⟩
    · obtain rfl : l = [] := by simpa using k4
      refine Calls.mono (Any.strings_Join_none L X a cap t w) ?_
      rintro e w' ⟨rfl, rfl⟩
      exact ⟨_, rfl, rv_val rfl, Below.refl _ _⟩
    · obtain rfl := re_str kr
      refine Calls.mono (Any.strings_Join L X b off cap l t w (fun j x hj => kc j (.string x) (by rw [List.getElem?_map, hj]; rfl)) (hF b kF) (by omega) k1 (by omega)) ?_
      rintro e w' ⟨rfl, hb⟩
      exact ⟨_, rfl, rv_val rfl, hb⟩
  · cases hm

noncomputable def repeatM (s : ByteArray) (n : Int) : Option ByteArray := if 0 ≤ n ∧ (s.size : Int) * n ≤ 4294967296 ∧ n ≤ 4294967296 then some ⟨(Lib.repeatL s.data.toList n.toNat).toArray⟩ else none
noncomputable def repeatS : MS (ByteArray × Int) ByteArray := ⟨.x .r .r, fun x => repeatM x.1 x.2, fun y => dV y, fun _ => [], fun _ _ => []⟩
theorem repeatOK (L : Lays.n105 P ρ) (X : Builder.Extra P ρ) (hc : ∀ args w, (callFunc (ρ.f 105) args).run P w = .ok (.enter (ρ.f 105) args) w) : FnOK P J (ρ.f 105) repeatS.S := by
  refine fnOK_dat hc (fun _ => rfl) (fun _ _ => rfl) (fun _ => rfl) (fun y => nb0_sc _) ?_
  rintro ⟨s, n⟩ y vs w F κ hm hJ hF hargs
  have hm : repeatM s n = some y := hm
  unfold repeatM at hm
  split at hm
  · rename_i hs
    cases hm
    obtain rfl := rvs_sc (us := [.string s, .int .i64 n]) hargs
    obtain ⟨c, rfl⟩ : ∃ c : Nat, n = c := ⟨n.toNat, by omega⟩
    have hlen : s.size * c ≤ 140737488355328 := by
      have := hs.2.1
      have h2 : ((s.size * c : Nat) : Int) ≤ 4294967296 := by rw [Int.natCast_mul]; exact this
      omega
    refine Calls.mono (Any.strings_Repeat L X s c w (by omega) hlen) ?_
    rintro e w' ⟨rfl, hb⟩
    exact ⟨_, rfl, rv_val rfl, hb⟩
  · cases hm

/-- A number's text. -/
noncomputable def itoaM (n : Int) : Option ByteArray := if -9223372036854775808 ≤ n ∧ n ≤ 9223372036854775807 then some ⟨(Lib.itoa n).toArray⟩ else none
noncomputable def itoaS : MS Int ByteArray := ⟨.r, fun x => itoaM x, fun y => dV y, fun _ => [], fun _ _ => []⟩
theorem itoaOK (L : LaysM.n171 P ρ) (hc : ∀ args w, (callFunc (ρ.f 171) args).run P w = .ok (.enter (ρ.f 171) args) w) {g : Nat} (hg : P.globalNamed "internal/strconv.uint64pow10" = some g) : FnOK P (strJ P (some Lib.pow10Tab)) (ρ.f 171) itoaS.S := by
  refine fnOK_dat hc (fun _ => rfl) (fun _ _ => rfl) (fun _ => rfl) (fun y => nb0_sc _) ?_
  rintro n y vs w F κ hm hJ hF hargs
  have hm : itoaM n = some y := hm
  unfold itoaM at hm
  split at hm
  · rename_i hs
    cases hm
    obtain rfl := rvs_sc (us := [.int .i64 n]) hargs
    refine Calls.mono (Any.strconv_Itoa L n hs.1 hs.2 w (strJ_pw hJ hg)) ?_
    rintro e w' ⟨rfl, k, os, rfl⟩
    exact ⟨_, rfl, rv_val rfl, below_grow w.heap.size w (Nat.le_refl _) k os⟩
  · cases hm
end Go.Ab
