/- My own layer, thirteenth part: the contract from the triple. -/
import Derived.Test.YtjahononbnbjnaaAbFn
namespace Go.Ab
set_option linter.unusedVariables false
set_option linter.unusedSimpArgs false
section
variable {P : Program} {J : Inv} {cx : Cx} {κ : Kap} {F : Nat → Prop} {w : World} {U : Nat → Prop} {nm : Nat} {σ : Objs} {ty : TypeId → Option TyE} {Γ : Nat → Option FnSpec}

theorem RVs.getD : ∀ {l : List AV} {us : List Value}, RVs κ F w l us → us.length = l.length ∧ ∀ t, t < l.length → RV κ F w (l.getD t .und) (us.getD t undef)
 | [], us, h => by unfold RVs at h; subst h; simp
 | x :: l, us, h => by
  unfold RVs at h
  obtain ⟨u, us', rfl, h1, h2⟩ := h
  obtain ⟨g1, g2⟩ := RVs.getD h2
  refine ⟨by simp [g1], fun t ht => ?_⟩
  cases t with
  | zero => simpa using h1
  | succ t => simpa using g2 t (by simpa using ht)

mutual
theorem pt_nb : ∀ (p : Pt) (d : D) (k : Nat), NB (· < k + p.n) (ptAV p d k)
 | .rd, d, k => by unfold ptAV NB; trivial
 | .zr, d, k => by unfold ptAV NB; trivial
 | .sl, d, k => by unfold ptAV NB Pt.n; omega
 | .bx, d, k => by unfold ptAV NB Pt.n; omega
 | .bo m, d, k => by unfold ptAV NB Pt.n; omega
 | .ag l, .agg ds, k => by unfold ptAV NB Pt.n; exact head_nb l ds k
 | .ag l, .sc _, k => by unfold ptAV NB; trivial
 | .ag l, .sl _ _, k => by unfold ptAV NB; trivial
 | .fn f l, .agg ds, k => by unfold ptAV NB Pt.n; exact head_nb l ds k
 | .fn f l, .sc _, k => by unfold ptAV NB; trivial
 | .fn f l, .sl _ _, k => by unfold ptAV NB; trivial
theorem head_nb : ∀ (ls : List Pt) (ds : List D) (k : Nat), NBs (· < k + Pt.ns ls) (headAV ls ds k)
 | [], ds, k => by unfold headAV NBs; trivial
 | p :: ls, d :: ds, k => by
  unfold headAV NBs Pt.ns
  exact ⟨NB.mono (fun o ho => by omega) (pt_nb p d k), NBs.mono (fun o ho => by omega) (head_nb ls ds (k + p.n))⟩
 | p :: ls, [], k => by
  unfold headAV NBs Pt.ns
  exact ⟨by unfold NB; trivial, NBs.mono (fun o ho => by omega) (head_nb ls [] k)⟩
end

theorem NBs.getD {l : List AV} (h : NBs U l) (t : Nat) : NB U (l.getD t .und) := by
 rw [List.getD_eq_getElem?_getD]
 cases hx : l[t]? with
 | none => simp only [Option.getD_none]; unfold NB; trivial
 | some x => exact NBs.at t x h hx

theorem fnOK_of (hty : ∀ t x, ty t = some x → TyOK P t x) {f : Nat} {fn : Func} {c : Code} (S : FnSpec) (N : Nat) (hc : ∀ args w, (callFunc f args).run P w = .ok (.enter f args) w) (hf : P.funcs[f]? = some fn) (hb : fn.body = some c)
  (hN : Pt.ns S.lend ≤ N) (K : Nat) (rs : List ResultVar) (hrs : fn.results.toList = rs) (n : Nat) (hn : fn.ntmps = n) (hobs : ∀ ds obs, S.pre ds obs → obs.length ≤ N ∧ K ≤ obs.length)
  (h : ∀ ds obs cx, S.pre ds obs → cx.L = K → cx.J = J → Ok P cx c (Fin ty rs K (S.post ds obs)) ⟨headAV S.lend ds 0 ++ List.replicate (n - (headAV S.lend ds 0).length) .und, lentOb obs, N⟩) : FnOK P J f S := by
 refine ⟨hc, fun vs w F ds obs κ hpre hargs hF hJ hobj => ?_⟩
 refine calls_of_wp hf hb ?_
 subst hn
 let cx : Cx := ⟨fun b => b < w.heap.size ∧ ¬ Lent κ obs b, fun b => F b ∨ w.heap.size ≤ b ∨ Lent κ obs b, w.heap.size, K, κ, J⟩
 have hvs : RVs κ F w (headAV S.lend ds 0) vs := hargs
 obtain ⟨hl1, hl2⟩ := hvs.getD
 have hlent : ∀ j x, obs[j]? = some x → ∀ b, Blk κ j (x.regen j) b → Lent κ obs b := fun j x hj b hb => ⟨j, x, hj, hb⟩
 obtain ⟨hoN, hoK⟩ := hobs ds obs hpre
 have hlo : ∀ o x, lentOb obs o = some x → ∃ y, obs[o]? = some y ∧ x = y.regen o := fun o x hx => by
  obtain ⟨y, hy, rfl⟩ := Option.map_eq_some_iff.1 hx
  exact ⟨y, hy, rfl⟩
 have horel : ORel cx κ F w (· < N) (lentOb obs) := by
  refine ⟨fun o x hx => ?_, fun o x hx => ?_, fun o x hx b hb => ?_, fun o x o' x' hx hx' hne b hb => ?_, fun b hb => ⟨.inl hb, hF b hb⟩, fun b hb => hb.1, fun b hb => .inr (.inl hb), Nat.le_refl _, hJ, fun j hj => ⟨Nat.lt_of_lt_of_le (Nat.lt_of_lt_of_le hj hoK) hoN, rfl⟩⟩
  ·obtain ⟨y, hy, rfl⟩ := hlo o x hx
   exact (hobj.ok o y hy).1
  ·obtain ⟨y, hy, rfl⟩ := hlo o x hx
   have hlt : o < N := by have := (List.getElem?_eq_some_iff.1 hy).1; omega
   exact ⟨hlt, NBl.nbo0 (U := (· < N)) hlt (fun j hj => by show j < N; omega) (hobj.ok o y hy).2⟩
  ·obtain ⟨y, hy, rfl⟩ := hlo o x hx
   have h1 := hobj.blk o y hy b hb
   exact ⟨h1.2, fun hK => hK.2 (hlent o y hy b hb), .inr (.inr (hlent o y hy b hb))⟩
  ·obtain ⟨y, hy, rfl⟩ := hlo o x hx
   obtain ⟨y', hy', rfl⟩ := hlo o' x' hx'
   exact hobj.apart o y o' y' hy hy' hne b hb
 have hrel : Rel cx κ F ⟨headAV S.lend ds 0 ++ List.replicate (fn.ntmps - (headAV S.lend ds 0).length) .und, lentOb obs, N⟩ { tmps := vs.toArray ++ Array.replicate (fn.ntmps - vs.toArray.size) undef, defers := [] } w := by
  refine ⟨⟨?_, rfl, fun t => ?_, fun t => ?_⟩, horel⟩
  ·simp [hl1]
  ·have e1 : (vs.toArray ++ Array.replicate (fn.ntmps - vs.toArray.size) undef).getD t undef = (vs ++ List.replicate (fn.ntmps - vs.length) undef).getD t undef := by
    rw [Array.getD_eq_getD_getElem?, List.getD_eq_getElem?_getD, ← Array.getElem?_toList]; simp
   rw [e1]
   by_cases ht : t < vs.length
   ·have e2 : (vs ++ List.replicate (fn.ntmps - vs.length) undef).getD t undef = vs.getD t undef := by
     rw [List.getD_eq_getElem?_getD, List.getElem?_append_left ht, ← List.getD_eq_getElem?_getD]
    have e3 : (headAV S.lend ds 0 ++ List.replicate (fn.ntmps - (headAV S.lend ds 0).length) AV.und).getD t .und = (headAV S.lend ds 0).getD t .und := by
     rw [List.getD_eq_getElem?_getD, List.getElem?_append_left (by omega), ← List.getD_eq_getElem?_getD]
    rw [e2, e3]
    exact hl2 t (by omega)
   ·have e2 : (vs ++ List.replicate (fn.ntmps - vs.length) undef).getD t undef = undef := by
     rw [List.getD_eq_getElem?_getD, List.getElem?_append_right (by omega), List.getElem?_replicate]; split <;> rfl
    have e3 : (headAV S.lend ds 0 ++ List.replicate (fn.ntmps - (headAV S.lend ds 0).length) AV.und).getD t .und = .und := by
     rw [List.getD_eq_getElem?_getD, List.getElem?_append_right (by omega), List.getElem?_replicate]; split <;> rfl
    rw [e2, e3]
    unfold RV; rfl
  ·rw [List.getD_eq_getElem?_getD]
   by_cases ht : t < (headAV S.lend ds 0).length
   ·rw [List.getElem?_append_left ht, ← List.getD_eq_getElem?_getD]
    exact NBs.getD (NBs.mono (fun o ho => by simp only at ho ⊢; omega) (head_nb S.lend ds 0)) t
   ·rw [List.getElem?_append_right (by omega), List.getElem?_replicate]
    split <;> (simp only [Option.getD_some, Option.getD_none]; unfold NB; trivial)
 refine wp_mono (h ds obs cx hpre rfl rfl κ F _ w hrel) ?_
 rintro e a' w' ⟨κ', F', st', ⟨hexit, v, r, ns, new, obs', hres, hexp, hpost, hnew, hobs', hnd, hnk, hnb, hnb'⟩, hFF, hwy, hrel'⟩
 obtain ⟨hnl, hnj⟩ := objsOf_some hnew
 obtain ⟨hol, hoj⟩ := objsOf_some hobs'
 rw [List.length_range] at hol
 obtain ⟨u, hrun, hu⟩ := res_run hty (show RelU cx κ' F' (· < st'.nx) st'.env st'.ob a' w' from ⟨hrel'.env, hrel'.orel⟩) hrs hres
 have horel' := hrel'.orel
 have hkap : ∀ j, j < K → (κ' j).v = (κ j).v := fun j hj => (horel'.lt j hj).2
 have hojl : ∀ (j : Nat) (x : Obj'), obs'[j]? = some x → ∃ y, j < K ∧ st'.ob j = some y ∧ x = (y.ren (ixN (List.range K))).regen 0 := fun j x hj => by
  have hlt := (List.getElem?_eq_some_iff.1 hj).1
  have h1 : (List.range K)[j]? = some j := by rw [List.getElem?_range (by omega)]
  obtain ⟨y, hy, hσ⟩ := hoj j j h1
  rw [hj] at hy; cases hy
  exact ⟨y, by omega, hσ, rfl⟩
 have hnjl : ∀ (j : Nat) (x : Obj'), new[j]? = some x → ∃ n y, ns[j]? = some n ∧ st'.ob n = some y ∧ x = (y.ren (ixN ns)).regen 0 := fun j x hj => by
  have hlt := (List.getElem?_eq_some_iff.1 hj).1
  have h1 : ns[j]? = some (ns[j]'(by omega)) := List.getElem?_eq_getElem (by omega)
  obtain ⟨y, hy, hσ⟩ := hnj j _ h1
  rw [hj] at hy; cases hy
  exact ⟨_, y, h1, hσ, rfl⟩
 have hlive : ∀ j, j < K → ∃ x, st'.ob j = some x := fun j hj => by
  obtain ⟨y, _, hσ⟩ := hoj j j (by rw [List.getElem?_range hj])
  exact ⟨y, hσ⟩
 -- objects of the call's own, and what is lent, lie in lent blocks or in new ones
 have hany : ∀ o x, st'.ob o = some x → ∀ b, Blk κ' o x b → Lent κ obs b ∨ w.heap.size ≤ b := by
  intro o x hx b hb
  obtain ⟨h1, h2, h3⟩ := horel'.free o x hx b hb
  rcases h3 with h3 | h3 | h3
  ·exact absurd (hFF b h3) h1
  ·exact .inr h3
  ·exact .inl h3
 let F2 : Nat → Prop := fun b => F' b ∨ ∃ o es l x, st'.ob o = some x ∧ x.sl = some (es, l) ∧ o ∉ ns ∧ K ≤ o ∧ Blk κ' o x b
 let κ2 : Kap := fun j => tk κ' st'.ob (ns.getD j 0)
 have hk2 : ∀ (j o : Nat), ns[j]? = some o → κ2 j = tk κ' st'.ob o := fun j o hj => by
  show tk κ' st'.ob (ns.getD j 0) = tk κ' st'.ob o
  rw [List.getD_eq_getElem?_getD, hj]; rfl
 have hret : Ret S ds obs κ F w u w' r new obs' κ2 (tk κ' st'.ob) F2 := by
  refine ⟨hpost, fun b hb => .inl (hFF b hb), fun b hb => ?_, fun b hb => ?_, hwy.mono (fun b hb => .inr hb), ?_, ?_, fun i x j y hi hj b hb hb' => ?_, ?_, ?_, fun j hj => ?_⟩
  ·rcases hb with hb | ⟨o, es, l, x, ho, hsl, hon, hok, hob⟩
   ·rcases (horel'.fG b hb).1 with h3 | h3 | h3
    ·exact .inl h3
    ·exact .inr (.inr h3)
    ·exact .inr (.inl h3)
   ·exact .inr (hany o _ ho b hob)
  ·rcases hb with hb | ⟨o, es, l, x, ho, hsl, hon, hok, hob⟩
   ·exact (horel'.fG b hb).2
   ·exact blk_lt horel' ho hob
  ·exact Exp.rv horel' (fun b hb => .inl hb) (fun o es l x ho hsl hon hok b hb => .inr ⟨o, es, l, x, ho, hsl, hon, hok, hb⟩) (fun j o hj => by rw [hk2 j o hj, tk_v]) hexp hu
  ·have := Exp.nb hexp
   rwa [← hnl] at this
  ·obtain ⟨y', hlt, hσ, rfl⟩ := hojl i x hi
   obtain ⟨n, z, hn, hσ', rfl⟩ := hnjl j y hj
   have hb := hb.named hσ rfl
   have hb' := hb'.named hσ' (hk2 j n hn)
   have hnk' := hnk n (List.mem_of_getElem? hn)
   exact horel'.apart i y' n z hσ hσ' (by omega) b hb hb'
  ·refine ⟨fun j x hj => ?_, fun j x hj b hb => ?_, fun i x j y hi hj hne b hb hb' => ?_⟩
   ·obtain ⟨n, y, hn, hσ, rfl⟩ := hnjl j x hj
    have hx := hnb _ (List.mem_of_getElem? hj)
    exact ⟨ObjOK.named hσ hx (hk2 j n hn) (fun o ho => by rw [hk2 _ o (ixN_at (by omega)), tk_v]) (fun b hb => .inl hb) (horel'.ok n y hσ), hx⟩
   ·obtain ⟨n, y, hn, hσ, rfl⟩ := hnjl j x hj
    have hb := hb.named hσ (hk2 j n hn)
    refine ⟨hany n y hσ b hb, fun hF2 => ?_⟩
    rcases hF2 with hF2 | ⟨o, es, l, z, ho, hsl, hon, hok, hob⟩
    ·exact (horel'.free n y hσ b hb).1 hF2
    ·exact horel'.apart n y o _ hσ ho (fun e2 => hon (e2 ▸ List.mem_of_getElem? hn)) b hb hob
   ·obtain ⟨n, x', hn, hσ, rfl⟩ := hnjl i x hi
    obtain ⟨m, y', hm, hσ', rfl⟩ := hnjl j y hj
    have hb := hb.named hσ (hk2 i n hn)
    have hb' := hb'.named hσ' (hk2 j m hm)
    refine horel'.apart n x' m y' hσ hσ' (fun e2 => hne ?_) b hb hb'
    have h1 := (List.getElem?_eq_some_iff.1 hn).1
    have h2 := (List.getElem?_eq_some_iff.1 hm).1
    exact (List.getElem_inj (h₀ := h1) (h₁ := h2) hnd).1 (by rw [(List.getElem?_eq_some_iff.1 hn).2, (List.getElem?_eq_some_iff.1 hm).2]; exact e2)
  ·refine ⟨fun j x hj => ?_, fun j x hj b hb => ?_, fun i x j y hi hj hne b hb hb' => ?_⟩
   ·obtain ⟨y, hlt, hσ, rfl⟩ := hojl j x hj
    have hx := hnb' _ (List.mem_of_getElem? hj)
    exact ⟨ObjOK.named hσ hx rfl (fun o ho => by
     have h1 := ixN_at (ns := List.range K) (o := o) (by rw [List.length_range]; omega)
     rw [List.getElem?_range (by omega)] at h1
     rw [Option.some.inj h1, tk_v]) (fun b hb => .inl hb) (horel'.ok j y hσ), hx⟩
   ·obtain ⟨y, hlt, hσ, rfl⟩ := hojl j x hj
    have hb := hb.named hσ rfl
    refine ⟨hany j y hσ b hb, fun hF2 => ?_⟩
    rcases hF2 with hF2 | ⟨o, es, l, z, ho, hsl, hon, hok, hob⟩
    ·exact (horel'.free j y hσ b hb).1 hF2
    ·exact horel'.apart j y o _ hσ ho (by omega) b hb hob
   ·obtain ⟨x', hlt, hσ, rfl⟩ := hojl i x hi
    obtain ⟨y', hlt', hσ', rfl⟩ := hojl j y hj
    exact horel'.apart i x' j y' hσ hσ' hne b (hb.named hσ rfl) (hb'.named hσ' rfl)
  ·rw [tk_v, hkap j (by omega)]
 cases e with
 | normal => exact ⟨hrel'.env.dfr, u, hrun, u, rfl, r, new, obs', κ2, tk κ' st'.ob, F2, hret⟩
 | ret => exact ⟨hrel'.env.dfr, u, hrun, u, rfl, r, new, obs', κ2, tk κ' st'.ob, F2, hret⟩
 | exit id => exact hexit.elim
 | goto l => exact hexit.elim
 | panic ch => exact hexit.elim
 | outgrown => exact hexit.elim

end
end Go.Ab
