/- My own layer, thirteenth part: the contract from the triple. -/
import Derived.Test.YtmpgpfekekobfaaAbFn
namespace Go.Ab
set_option linter.unusedVariables false
set_option linter.unusedSimpArgs false
section
variable {P : Program} {cx : Cx} {κ : Kap} {F : Nat → Prop} {w : World} {U : Nat → Prop} {nm : Nat} {σ : Objs} {ty : TypeId → Option TyE} {Γ : Nat → Option FnSpec}

theorem RVs.getD : ∀ {l : List AV} {us : List Value}, RVs κ F w l us → us.length = l.length ∧ ∀ t, t < l.length → RV κ F w (l.getD t .und) (us.getD t undef)
  | [], us, h => by unfold RVs at h; subst h; simp
  | x :: l, us, h => by
    unfold RVs at h
    obtain ⟨u, us', rfl, h1, h2⟩ := h
    obtain ⟨g1, g2⟩ := RVs.getD h2
    refine ⟨by simp [g1], fun t ht => ?_⟩
    cases t with
    | zero => simpa using h1
    | succ t => simpa using g2 t (by simpa using ht)

theorem head_rv : ∀ (ls : List (Option Bool)) (ds : List D) (k : Nat) (vs : List Value), RArgs κ F w ls ds k vs → RVs κ F w (headAV ls ds k) vs
  | [], ds, k, vs, h => by unfold RArgs at h; obtain ⟨rfl, rfl⟩ := h; unfold headAV RVs; rfl
  | none :: ls, ds, k, vs, h => by
    unfold RArgs at h
    obtain ⟨d, ds', v, vs', rfl, rfl, h1, h2⟩ := h
    unfold headAV RVs
    exact ⟨v, vs', rfl, by unfold RV; exact h1, head_rv ls ds' k vs' h2⟩
  | some false :: ls, ds, k, vs, h => by
    unfold RArgs at h
    obtain ⟨ds', v, vs', rfl, rfl, h1, h2⟩ := h
    unfold headAV RVs
    exact ⟨v, vs', rfl, by simpa using h1, head_rv ls ds' (k + 1) vs' h2⟩
  | some true :: ls, ds, k, vs, h => by
    unfold RArgs at h
    obtain ⟨ds', v, vs', rfl, rfl, h1, h2⟩ := h
    unfold headAV RVs
    exact ⟨v, vs', rfl, by simpa using h1, head_rv ls ds' (k + 1) vs' h2⟩

theorem head_nb : ∀ (ls : List (Option Bool)) (ds : List D) (k : Nat), NBs (· < k + ls.length) (headAV ls ds k)
  | [], ds, k => by unfold headAV NBs; trivial
  | none :: ls, d :: ds, k => by
    unfold headAV NBs
    exact ⟨by unfold NB; trivial, NBs.mono (fun o ho => by simp only [List.length_cons]; omega) (head_nb ls ds k)⟩
  | some false :: ls, d :: ds, k => by
    unfold headAV NBs
    exact ⟨by unfold NB; simp only [List.length_cons]; omega, NBs.mono (fun o ho => by simp only [List.length_cons]; omega) (head_nb ls ds (k + 1))⟩
  | some true :: ls, d :: ds, k => by
    unfold headAV NBs
    exact ⟨by unfold NB; simp only [List.length_cons]; omega, NBs.mono (fun o ho => by simp only [List.length_cons]; omega) (head_nb ls ds (k + 1))⟩
  | none :: ls, [], k => by
    unfold headAV NBs
    exact ⟨by unfold NB; trivial, NBs.mono (fun o ho => by simp only [List.length_cons]; omega) (head_nb ls [] k)⟩
  | some b :: ls, [], k => by
    have e : headAV (some b :: ls) [] k = .unk :: headAV ls [] k := by cases b <;> rfl
    rw [e]
    unfold NBs
    exact ⟨by unfold NB; trivial, NBs.mono (fun o ho => by simp only [List.length_cons]; omega) (head_nb ls [] k)⟩

theorem NBs.getD {l : List AV} (h : NBs U l) (t : Nat) : NB U (l.getD t .und) := by
  rw [List.getD_eq_getElem?_getD]
  cases hx : l[t]? with
  | none => simp only [Option.getD_none]; unfold NB; trivial
  | some x => exact NBs.at t x h hx

theorem Blk.lentB {κ' : Kap} {j b : Nat} {z y : Obj'} (hn : NBo (fun _ => False) z) (hk : κ' j = κ j) (h : Blk κ j z b) : Blk κ' j y b := by
  cases z with
  | tab e es mask l g hole => exact (show False from hn).elim
  | _ =>
    rcases h with h | h
    · exact .inl (by rw [hk]; exact h)
    · exact h.elim

/-- A name that bears its object's rows too. -/
def tk (κ : Kap) (σ : Objs) (n : Nat) : KV := match σ n with
  | some (.tab _ _ _ _ g _) => ⟨(κ n).v, (κ g).r⟩
  | _ => κ n
theorem tk_v (κ : Kap) (σ : Objs) (n : Nat) : (tk κ σ n).v = (κ n).v := by
  unfold tk; split <;> rfl

theorem ObjOK.named {κ2 : Kap} {F' : Nat → Prop} {n j : Nat} {y : Obj'} (hy : σ n = some y) (hn : NBt (y.regen 0)) (hk : κ2 j = tk κ σ n) (hF : ∀ b, F b → F' b) (h : ObjOK κ F w n y) : ObjOK κ2 F' w j ((y.regen 0).regen j) := by
  cases y with
  | box l => exact ObjOK.turn (o := n) (by rw [hk]; unfold tk; rw [hy]) hn (.inl hF) h
  | arr e es l => exact ObjOK.turn (o := n) (by rw [hk]; unfold tk; rw [hy]) trivial (.inl hF) h
  | tab e es mask l g hole =>
    have ht : TabOK F w e es mask l (κ n).v (κ g).r hole := h
    have hk' : κ2 j = ⟨(κ n).v, (κ g).r⟩ := by rw [hk]; unfold tk; rw [hy]
    show TabOK F' w e es mask l (κ2 j).v (κ2 j).r hole
    rw [hk']
    exact ht.mono hF (fun _ _ => rfl) (fun _ _ => rfl) (fun _ _ _ _ _ => rfl)
theorem Blk.named {κ2 : Kap} {n j b : Nat} {y : Obj'} (hy : σ n = some y) (hk : κ2 j = tk κ σ n) (h : Blk κ2 j ((y.regen 0).regen j) b) : Blk κ n y b := by
  rcases h with h | h
  · exact .inl (by rw [← tk_v κ σ n, ← hk]; exact h)
  · cases y with
    | tab e es mask l g hole =>
      have hk' : κ2 j = ⟨(κ n).v, (κ g).r⟩ := by rw [hk]; unfold tk; rw [hy]
      obtain ⟨k, i, h1, h2⟩ := h
      refine .inr ⟨k, i, h1, ?_⟩
      rw [hk'] at h2; exact h2
    | _ => exact h.elim

/-- A FUNCTION's CONTRACT FROM ITS BODY's TRIPLE. 'N': from here on the names of its own objects. -/
theorem fnOK_of (hty : ∀ t x, ty t = some x → TyOK P t x) {f : Nat} {fn : Func} {c : Code} (S : FnSpec) (N : Nat) (hc : ∀ args w, (callFunc f args).run P w = .ok (.enter f args) w) (hf : P.funcs[f]? = some fn) (hb : fn.body = some c)
    (hN : S.lend.length ≤ N) (rs : List ResultVar) (hrs : fn.results.toList = rs) (n : Nat) (hn : fn.ntmps = n) (hobs : ∀ ds obs, S.pre ds obs → obs.length ≤ N)
    (h : ∀ ds obs cx, S.pre ds obs → cx.L = obs.length → Ok P cx c (Fin ty rs obs.length (S.post ds obs)) ⟨headAV S.lend ds 0 ++ List.replicate (n - (headAV S.lend ds 0).length) .und, lentOb obs, N⟩) : FnOK P f S := by
  refine ⟨hc, fun vs w F ds obs κ hpre hargs hF hobj => ?_⟩
  refine calls_of_wp hf hb ?_
  subst hn
  let cx : Cx := ⟨fun b => b < w.heap.size ∧ ¬ Lent κ obs b, fun b => F b ∨ w.heap.size ≤ b ∨ Lent κ obs b, w.heap.size, obs.length, κ⟩
  have hvs := head_rv S.lend ds 0 vs hargs
  obtain ⟨hl1, hl2⟩ := hvs.getD
  have hlent : ∀ j x, obs[j]? = some x → ∀ b, Blk κ j x b → Lent κ obs b := fun j x hj b hb => ⟨j, x, hj, hb⟩
  have hoN := hobs ds obs hpre
  have horel : ORel cx κ F w (· < N) (lentOb obs) := by
    refine ⟨fun o x hx => (hobj.ok o x hx).1, fun o x hx => ⟨?_, NBo.mono (fun _ hf => False.elim hf) (hobj.ok o x hx).2⟩, fun o x hx b hb => ?_, fun o x o' x' hx hx' hne b hb => hobj.apart o x o' x' hx hx' hne b hb, fun b hb => ⟨.inl hb, hF b hb⟩, fun b hb => hb.1, fun b hb => .inr (.inl hb), Nat.le_refl _, fun j hj => ⟨Nat.lt_of_lt_of_le hj hoN, rfl⟩⟩
    · have := (List.getElem?_eq_some_iff.1 hx).1; omega
    · have h1 := hobj.blk o x hx b hb
      exact ⟨h1.2, fun hK => hK.2 (hlent o x hx b hb), .inr (.inr (hlent o x hx b hb))⟩
  have hrel : Rel cx κ F ⟨headAV S.lend ds 0 ++ List.replicate (fn.ntmps - (headAV S.lend ds 0).length) .und, lentOb obs, N⟩ { tmps := vs.toArray ++ Array.replicate (fn.ntmps - vs.toArray.size) undef, defers := [] } w := by
    refine ⟨⟨?_, rfl, fun t => ?_, fun t => ?_⟩, horel⟩
    · simp [hl1]
    · have e1 : (vs.toArray ++ Array.replicate (fn.ntmps - vs.toArray.size) undef).getD t undef = (vs ++ List.replicate (fn.ntmps - vs.length) undef).getD t undef := by
        rw [Array.getD_eq_getD_getElem?, List.getD_eq_getElem?_getD, ← Array.getElem?_toList]; simp
      rw [e1]
      by_cases ht : t < vs.length
      · have e2 : (vs ++ List.replicate (fn.ntmps - vs.length) undef).getD t undef = vs.getD t undef := by
          rw [List.getD_eq_getElem?_getD, List.getElem?_append_left ht, ← List.getD_eq_getElem?_getD]
        have e3 : (headAV S.lend ds 0 ++ List.replicate (fn.ntmps - (headAV S.lend ds 0).length) AV.und).getD t .und = (headAV S.lend ds 0).getD t .und := by
          rw [List.getD_eq_getElem?_getD, List.getElem?_append_left (by omega), ← List.getD_eq_getElem?_getD]
        rw [e2, e3]
        exact hl2 t (by omega)
      · have e2 : (vs ++ List.replicate (fn.ntmps - vs.length) undef).getD t undef = undef := by
          rw [List.getD_eq_getElem?_getD, List.getElem?_append_right (by omega), List.getElem?_replicate]; split <;> rfl
        have e3 : (headAV S.lend ds 0 ++ List.replicate (fn.ntmps - (headAV S.lend ds 0).length) AV.und).getD t .und = .und := by
          rw [List.getD_eq_getElem?_getD, List.getElem?_append_right (by omega), List.getElem?_replicate]; split <;> rfl
        rw [e2, e3]
        unfold RV; rfl
    · rw [List.getD_eq_getElem?_getD]
      by_cases ht : t < (headAV S.lend ds 0).length
      · rw [List.getElem?_append_left ht, ← List.getD_eq_getElem?_getD]
        exact NBs.getD (NBs.mono (fun o ho => by simp only; omega) (head_nb S.lend ds 0)) t
      · rw [List.getElem?_append_right (by omega), List.getElem?_replicate]
        split <;> (simp only [Option.getD_some, Option.getD_none]; unfold NB; trivial)
  refine wp_mono (h ds obs cx hpre rfl κ F _ w hrel) ?_
  rintro e a' w' ⟨κ', F', st', ⟨hexit, v, r, ns, new, obs', hres, hexp, hpost, hnew, hobs', hnd, hnk, hnb, hnb'⟩, hFF, hwy, hrel'⟩
  obtain ⟨hnl, hnj⟩ := objsOf_some hnew
  obtain ⟨hol, hoj⟩ := objsOf_some hobs'
  rw [List.length_range] at hol
  obtain ⟨u, hrun, hu⟩ := res_run hty (show RelU cx κ' F' (· < st'.nx) st'.env st'.ob a' w' from ⟨hrel'.env, hrel'.orel⟩) hrs hres
  have horel' := hrel'.orel
  have hkap : ∀ j, j < obs.length → κ' j = κ j := fun j hj => (horel'.lt j hj).2
  have hojl : ∀ (j : Nat) (x : Obj'), obs'[j]? = some x → j < obs.length ∧ st'.ob j = some x := fun j x hj => by
    have hlt := (List.getElem?_eq_some_iff.1 hj).1
    have h1 : (List.range obs.length)[j]? = some j := by rw [List.getElem?_range (by omega)]
    obtain ⟨y, hy, hσ⟩ := hoj j j h1
    rw [hj] at hy; cases hy
    have hpl := hnb' _ (List.mem_of_getElem? hj)
    rw [regen_plain hpl]
    exact ⟨by omega, hσ⟩
  have hnjl : ∀ (j : Nat) (x : Obj'), new[j]? = some x → ∃ n y, ns[j]? = some n ∧ st'.ob n = some y ∧ x = y.regen 0 := fun j x hj => by
    have hlt := (List.getElem?_eq_some_iff.1 hj).1
    have h1 : ns[j]? = some (ns[j]'(by omega)) := List.getElem?_eq_getElem (by omega)
    obtain ⟨y, hy, hσ⟩ := hnj j _ h1
    rw [hj] at hy; cases hy
    exact ⟨_, y, h1, hσ, rfl⟩
  have hlive : ∀ j, j < obs.length → ∃ x, st'.ob j = some x := fun j hj => by
    obtain ⟨y, _, hσ⟩ := hoj j j (by rw [List.getElem?_range hj])
    exact ⟨y, hσ⟩
  have hlapart : ∀ o x, st'.ob o = some x → obs.length ≤ o → ∀ b, Blk κ' o x b → ¬ Lent κ obs b := by
    rintro o x hx ho b hb ⟨j, z, hj, hjb⟩
    have hjl := (List.getElem?_eq_some_iff.1 hj).1
    obtain ⟨y, hy⟩ := hlive j hjl
    exact horel'.apart o x j y hx hy (by omega) b hb (hjb.lentB (hobj.ok j z hj).2 (hkap j hjl))
  -- objects of the call's own lie in new blocks
  have hown : ∀ o x, st'.ob o = some x → obs.length ≤ o → ∀ b, Blk κ' o x b → w.heap.size ≤ b := by
    intro o x hx ho b hb
    obtain ⟨h1, h2, h3⟩ := horel'.free o x hx b hb
    rcases h3 with h3 | h3 | h3
    · exact absurd (hFF b h3) h1
    · exact h3
    · exact absurd h3 (hlapart o x hx ho b hb)
  let F2 : Nat → Prop := fun b => F' b ∨ ∃ o es l x, st'.ob o = some x ∧ x.sl = some (es, l) ∧ o ∉ ns ∧ obs.length ≤ o ∧ Blk κ' o x b
  let κ2 : Kap := fun j => tk κ' st'.ob (ns.getD j 0)
  have hk2 : ∀ (j o : Nat), ns[j]? = some o → κ2 j = tk κ' st'.ob o := fun j o hj => by
    show tk κ' st'.ob (ns.getD j 0) = tk κ' st'.ob o
    rw [List.getD_eq_getElem?_getD, hj]; rfl
  have hret : Ret S ds obs κ F w u w' r new obs' κ2 F2 := by
    refine ⟨hpost, fun b hb => .inl (hFF b hb), fun b hb => ?_, fun b hb => ?_, hwy.mono (fun b hb => .inr hb), ?_, ?_, ?_, ?_⟩
    · rcases hb with hb | ⟨o, es, l, x, ho, hsl, hon, hok, hob⟩
      · rcases (horel'.fG b hb).1 with h3 | h3 | h3
        · exact .inl h3
        · exact .inr h3
        · obtain ⟨j, z, hj, hjb⟩ := h3
          have hjl := (List.getElem?_eq_some_iff.1 hj).1
          obtain ⟨y, hy⟩ := hlive j hjl
          exact absurd hb (horel'.free j y hy b (hjb.lentB (hobj.ok j z hj).2 (hkap j hjl))).1
      · exact .inr (hown o _ ho hok b hob)
    · rcases hb with hb | ⟨o, es, l, x, ho, hsl, hon, hok, hob⟩
      · exact (horel'.fG b hb).2
      · exact blk_lt horel' ho hob
    · exact Exp.rv horel' (fun b hb => .inl hb) (fun o es l x ho hsl hon hok b hb => .inr ⟨o, es, l, x, ho, hsl, hon, hok, hb⟩) (fun j o hj => by rw [hk2 j o hj, tk_v]) hexp hu
    · have := Exp.nb hexp
      rwa [← hnl] at this
    · refine ⟨fun j x hj => ?_, fun j x hj b hb => ?_, fun i x j y hi hj hne b hb hb' => ?_⟩
      · obtain ⟨n, y, hn, hσ, rfl⟩ := hnjl j x hj
        have hx := hnb _ (List.mem_of_getElem? hj)
        exact ⟨ObjOK.named hσ hx (hk2 j n hn) (fun b hb => .inl hb) (horel'.ok n y hσ), hx⟩
      · obtain ⟨n, y, hn, hσ, rfl⟩ := hnjl j x hj
        have hb := hb.named hσ (hk2 j n hn)
        have hnk' := hnk n (List.mem_of_getElem? hn)
        refine ⟨hown n y hσ hnk' b hb, fun hF2 => ?_⟩
        rcases hF2 with hF2 | ⟨o, es, l, z, ho, hsl, hon, hok, hob⟩
        · exact (horel'.free n y hσ b hb).1 hF2
        · exact horel'.apart n y o _ hσ ho (fun e2 => hon (e2 ▸ List.mem_of_getElem? hn)) b hb hob
      · obtain ⟨n, x', hn, hσ, rfl⟩ := hnjl i x hi
        obtain ⟨m, y', hm, hσ', rfl⟩ := hnjl j y hj
        have hb := hb.named hσ (hk2 i n hn)
        have hb' := hb'.named hσ' (hk2 j m hm)
        refine horel'.apart n x' m y' hσ hσ' (fun e2 => hne ?_) b hb hb'
        have h1 := (List.getElem?_eq_some_iff.1 hn).1
        have h2 := (List.getElem?_eq_some_iff.1 hm).1
        exact (List.getElem_inj (h₀ := h1) (h₁ := h2) hnd).1 (by rw [(List.getElem?_eq_some_iff.1 hn).2, (List.getElem?_eq_some_iff.1 hm).2]; exact e2)
    · intro j x hj
      obtain ⟨hlt, hσ⟩ := hojl j x hj
      have hx := hnb' x (List.mem_of_getElem? hj)
      exact ⟨ObjOK.turn (o := j) (hkap j hlt).symm hx (.inl fun b hb => .inl hb) (horel'.ok j x hσ), hx⟩
  cases e with
  | normal => exact ⟨hrel'.env.dfr, u, hrun, u, rfl, r, new, obs', κ2, F2, hret⟩
  | ret => exact ⟨hrel'.env.dfr, u, hrun, u, rfl, r, new, obs', κ2, F2, hret⟩
  | exit id => exact hexit.elim
  | goto l => exact hexit.elim
  | panic ch => exact hexit.elim
  | outgrown => exact hexit.elim

end
end Go.Ab
