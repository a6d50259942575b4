/- My own layer, eleventh part: one operation of any kind; operations one behind the other; a region that keeps the text's order. -/
import Derived.Test.YtjahononbnbjnaaAbCall
import Derived.Test.YtjahononbnbjnaaAbMap
namespace Go.Ab
set_option linter.unusedVariables false
set_option linter.unusedSimpArgs false
section
variable {P : Program} {cx : Cx} {κ : Kap} {F : Nat → Prop} {w : World} {U : Nat → Prop} {nm : Nat} {σ : Objs} {ty : TypeId → Option TyE} {Γ : Nat → Option FnSpec}

theorem sound_fail {o : Oper} {ρ : Operand → Value} : Sound P cx κ F w U nm σ o ρ .fail := fun hp => hp.elim

theorem arr1 {α : Type} {a : Array α} {x : α} (h : a.toList = [x]) : a = #[x] := Array.ext' (by simpa using h)
theorem arr3 {α : Type} {a : Array α} {x y z : α} (h : a.toList = [x, y, z]) : a = #[x, y, z] := Array.ext' (by simpa using h)
theorem arr2 {α : Type} {a : Array α} {x y : α} (h : a.toList = [x, y]) : a = #[x, y] := Array.ext' (by simpa using h)

theorem rvs_map {ρ : Operand → Value} {e : Operand → AV} (he : ∀ x, RV κ F w (e x) (ρ x)) : ∀ (xs : List Operand), RVs κ F w (xs.map e) (xs.map ρ)
 | [] => by unfold RVs; rfl
 | x :: xs => by
  simp only [List.map_cons]
  unfold RVs
  exact ⟨_, _, rfl, he x, rvs_map he xs⟩
theorem nbs_map {e : Operand → AV} (hn : ∀ x, NB U (e x)) : ∀ (xs : List Operand), NBs U (xs.map e)
 | [] => by unfold NBs; trivial
 | x :: xs => by
  simp only [List.map_cons]
  unfold NBs
  exact ⟨hn x, nbs_map hn xs⟩
theorem sound_mkfn (h : ORel cx κ F w U σ) {o : Oper} {ρ : Operand → Value} {e : Operand → AV} (he : ∀ x, RV κ F w (e x) (ρ x)) (hn : ∀ x, NB U (e x)) {f : Nat} {first caps : Array Operand} (ho : o.op = .makeFunc (.func f) first caps) (hfirst : first.toList = []) :
  Sound P cx κ F w U nm σ o ρ (.det True [] (.fn f (caps.toList.map e)) []) := by
 intro _
 refine out_val (v := .func (.func f) #[] (caps.map ρ)) (w' := w) ?_ (sr_same h ?_ ?_)
 ·unfold execOp
  have : first = #[] := Array.ext' (by simpa using hfirst)
  subst this
  simp only [ho, Instr.makeFunc, Sem.run_bind, Sem.run_pure, Result.andThen_ok, List.map_toArray, List.map_nil]
 ·unfold RV
  exact ⟨caps.toList.map ρ, by congr 1; apply Array.ext'; simp, rvs_map he _⟩
 ·unfold NB; exact nbs_map hn _

theorem spec_sound (hty : ∀ t x, ty t = some x → TyOK P t x) (hΓ : ∀ f S, Γ f = some S → FnOK P cx.J f S) (h : ORel cx κ F w U σ) (hf : ∀ j, j < 16 → ¬ U (nm + j)) {o : Oper} {ρ : Operand → Value} {e : Operand → AV}
  (he : ∀ x, RV κ F w (e x) (ρ x)) (hn : ∀ x, NB U (e x)) (hfn : ∀ f, ρ (.func f) = .func (.func f) #[] #[]) : Sound P cx κ F w U nm σ o ρ (spec ty Γ σ e nm o) := by
 have hf0 : ¬ U nm := hf 0 (by omega)
 obtain ⟨dst, op, type, pos, after, guard⟩ := o
 cases op with
 | move x => exact sound_move h he hn (.inl rfl)
 | assign x => exact sound_move h he hn (.inr rfl)
 | pick c a b => exact sound_pick h he hn rfl
 | alloc t => exact sound_alloc hty h hf0 rfl
 | box t x => exact sound_box h hf0 he hn rfl
 | load t a => exact sound_load hty h he rfl (fun T ob es k j hT hex => sound_tabLoad hty h he rfl hT hex) (fun T ob g k j es i c hT hex => sound_rowLoad hty h he rfl hT hex)
 | store t a x => exact sound_store hty h he hn rfl (fun T cs ob es k j hT hcs hl hea => sound_tabStore hty h hf0 he hn rfl hT hcs hl hea) (fun T cs ds ob g k j es i c hT hcs hl hds hea => sound_rowStore hty h he hn rfl hT hcs hl hds hea)
 | nilCheck x => exact sound_nilCheck h he hn rfl
 | binOp op t x y u => exact sound_bin hty h he rfl
 | unOp op t x =>
  cases op
  case not => exact sound_not h he rfl
  case neg => exact sound_neg h he rfl
  all_goals exact sound_fail
 | convert s d x => exact sound_convert hty h hf0 he rfl
 | slice t x lo hi mx =>
  cases mx with
  | none => exact sound_slice hty h hf0 he rfl (fun el E ob g k j l hx kk hh hel hex hhi hih hlo => sound_rowSlice hty h he hn rfl hel hex hhi hih hlo)
  | some m => exact sound_fail
 | fieldAddr s x f => exact sound_field hty h he hn rfl
 | field s x f => exact sound_fieldV hty h he hn rfl
 | indexAddr t x i => exact sound_index hty h he hn rfl (fun el E kk n ob g k j hel hi hex => sound_rowIndex hty h he hn rfl hel hi hex)
 | index t x i => exact sound_str_index hty h he hn rfl
 | extract x i => exact sound_extract h he hn rfl
 | build t parts => exact sound_build hty h he hn rfl
 | buildSlice t len parts => exact sound_buildSlice hty h hf0 he hn rfl (fun el E ds ns hel hl hle hp hz hds => sound_tabBuild hty h hf0 he hn rfl hel hl hle hp hz hds)
 | makeSlice t l c => exact sound_make hty h hf0 he rfl (fun el E k k' n m d hel hl hc hpos hzs hone hd => sound_tabMake hty h hf0 he rfl hel hl hc hpos hzs hone hd)
 | makeMap t r =>
  cases r with
  | none => unfold spec; exact sound_makeMap h hf0 rfl
  | some r => exact sound_fail
 | lookup t x i ok =>
  cases ok with
  | true => unfold spec; exact sound_lookup hty h he rfl
  | false => exact sound_fail
 | mapUpdate t x i v => unfold spec; exact sound_mapPut hty h he rfl
 | call c =>
  obtain ⟨callee, args, argTypes⟩ := c
  cases callee with
  | value f =>
   unfold spec; simp only []
   split
   ·rename_i g l hcv
    exact sound_call hΓ h hf he rfl hcv
   ·exact sound_fail
  | invoke r m => exact sound_fail
  | builtin b =>
   cases b
   case len =>
    unfold spec; simp only []
    split
    ·rename_i x t hx ht
     have h1 := arr1 hx; have h2 := arr1 ht; subst h1; subst h2
     exact sound_len hty h he rfl (fun ob g k j hu hex => by
      obtain ⟨el, sz, by', z, q, hts⟩ := hu
      exact sound_rowLen h he rfl ⟨el, (hty _ _ hts).1⟩ hex)
    ·exact sound_fail
   case append =>
    unfold spec; simp only []
    split
    ·rename_i x y t t' hx ht
     have h1 := arr2 hx; have h2 := arr2 ht; subst h1; subst h2
     exact sound_append hty h hf0 he rfl (fun el E o2 hel ht hp hz hey => by
      subst ht
      exact sound_tabAppend hty h hf0 he rfl hel hp hz hey) (fun el E ob g k j l2 rd hel ht hp hz hex hsl => by
      subst ht
      exact sound_rowAppend hty h hf he rfl hel hp hz hex hsl)
    ·exact sound_fail
   case max =>
    unfold spec; simp only []
    split
    ·rename_i x y hx
     have h1 := arr2 hx; subst h1
     split
     ·rename_i k a k' b h1 h2
      exact sound_max h he rfl h1 h2
     ·exact sound_fail
    ·rename_i x y z hx
     have h1 := arr3 hx; subst h1
     split
     ·rename_i k a k' b k2 c h1 h2 h3
      exact sound_max3 h he rfl h1 h2 h3
     ·exact sound_fail
    ·exact sound_fail
   case min =>
    unfold spec; simp only []
    split
    ·rename_i x y hx
     have h1 := arr2 hx; subst h1
     split
     ·rename_i k a k' b h1 h2
      exact sound_min h he rfl h1 h2
     ·exact sound_fail
    ·exact sound_fail
   all_goals exact sound_fail
 | makeFunc fn first caps =>
  cases fn with
  | func f =>
   unfold spec; simp only []
   split
   ·rename_i hfirst
    exact sound_mkfn h he hn rfl hfirst
   ·exact sound_fail
  | _ => exact sound_fail
 | _ => exact sound_fail

structure RelU (cx : Cx) (κ : Kap) (F : Nat → Prop) (U : Nat → Prop) (env : List AV) (σ : Objs) (a : Act) (w : World) : Prop where
 env : EnvR κ F w U env a
 orel : ORel cx κ F w U σ

theorem EnvR.put {env : List AV} {a : Act} {d : Option Tmp} {av : AV} {v : Value} {κ' : Kap} {F' : Nat → Prop} {w' : World} {U' : Nat → Prop} {σ' : Objs} (h : EnvR κ F w U env a) (ha : Aft cx κ F w U κ' F' w' U' σ') (hv : RV κ' F' w' av v) (hn : NB U' av) :
  EnvR κ' F' w' U' (putA env d av) (a.put d v) := by
 have old : ∀ t, RV κ' F' w' (env.getD t .und) (a.tmps.getD t undef) := fun t => RV.mono ha.kap ha.fr (fun b hb => ha.wx.block b (.inl hb)) (h.nb t) (h.rv t)
 have oldn : ∀ t, NB U' (env.getD t .und) := fun t => NB.mono ha.us (h.nb t)
 cases d with
 | none => exact ⟨h.size, h.dfr, old, oldn⟩
 | some d =>
  refine ⟨by simp [Act.put, putA, h.size], h.dfr, fun t => ?_, fun t => ?_⟩
  ·simp only [putA, Act.put]
   by_cases ht : t = d
   ·subst ht
    by_cases hlt : t < env.length
    ·have e1 : (env.set t av).getD t .und = av := by rw [List.getD_eq_getElem?_getD, List.getElem?_set_self hlt]; rfl
     have e2 : (a.tmps.setIfInBounds t v).getD t undef = v := by
      rw [Array.getD_eq_getD_getElem?, Array.getElem?_setIfInBounds_self_of_lt (by rw [h.size]; exact hlt)]; rfl
     rw [e1, e2]; exact hv
    ·have e1 : (env.set t av).getD t .und = env.getD t .und := by rw [List.set_eq_of_length_le (by omega)]
     have e2 : a.tmps.setIfInBounds t v = a.tmps := by apply Array.ext'; rw [Array.toList_setIfInBounds, List.set_eq_of_length_le (by rw [Array.length_toList, h.size]; omega)]
     rw [e1, e2]; exact old t
   ·have e1 : (env.set d av).getD t .und = env.getD t .und := by rw [List.getD_eq_getElem?_getD, List.getElem?_set_ne (Ne.symm ht), ← List.getD_eq_getElem?_getD]
    have e2 : (a.tmps.setIfInBounds d v).getD t undef = a.tmps.getD t undef := by
     rw [Array.getD_eq_getD_getElem?, Array.getElem?_setIfInBounds_ne (Ne.symm ht), ← Array.getD_eq_getD_getElem?]
    rw [e1, e2]; exact old t
  ·simp only [putA]
   by_cases ht : t = d
   ·subst ht
    by_cases hlt : t < env.length
    ·have e1 : (env.set t av).getD t .und = av := by rw [List.getD_eq_getElem?_getD, List.getElem?_set_self hlt]; rfl
     rw [e1]; exact hn
    ·have e1 : (env.set t av).getD t .und = env.getD t .und := by rw [List.set_eq_of_length_le (by omega)]
     rw [e1]; exact oldn t
   ·have e1 : (env.set d av).getD t .und = env.getD t .und := by rw [List.getD_eq_getElem?_getD, List.getElem?_set_ne (Ne.symm ht), ← List.getD_eq_getElem?_getD]
    rw [e1]; exact oldn t

theorem eval_nb {env : List AV} {a : Act} (h : EnvR κ F w U env a) (x : Operand) : NB U (evalA env x) := by
 cases x with
 | tmp t => exact h.nb t
 | const v =>
  simp only [evalA]
  cases v
  case agg cs =>
   simp only [constAV]
   split <;> (unfold NB; trivial)
  all_goals (simp only [constAV]; unfold NB; trivial)
 | global g => simp only [evalA]; unfold NB; trivial
 | func f => simp only [evalA]; unfold NB NBs; trivial

theorem step_sound (hty : ∀ t x, ty t = some x → TyOK P t x) (hΓ : ∀ f S, Γ f = some S → FnOK P cx.J f S) {ops : Array Oper} {env : List AV} {a : Act} (hr : RelU cx κ F U env σ a w) (hf : ∀ j, j < 16 → ¬ U (nm + j)) {o : Oper} {K : AV → Delta → Prop} {next : Act → World → Prop} {Q : Exit → Act → World → Prop}
  (hT : (gspec ty Γ ops σ env nm o).T K)
  (hnext : ∀ av δ v κ' F' w', K av δ → (∀ b, F b → F' b) → Wy cx F w w' → RelU cx κ' F' (Un U nm) (putA env o.dst av) (app δ σ) (a.put o.dst v) w' → next (a.put o.dst v) w') :
  if Region.wanted o (yielded ops a.tmps) then o.wp P a w next Q else next (a.put o.dst undef) w := by
 have main : ∀ s : Spec, Sound P cx κ F w U nm σ o a.eval s → s.T K → o.wp P a w next Q := by
  intro s hs hT
  obtain ⟨hp, hK⟩ := Spec.T_iff.1 hT
  refine (hs hp).wp ?_
  rintro v w' ⟨av, δ, κ', F', hR, ha, hv, hn⟩
  exact hnext av δ v κ' F' w' (hK av δ hR) ha.fr ha.wx ⟨hr.env.put ha hv hn, ha.orel⟩
 have skip : K .und [] → next (a.put o.dst undef) w := by
  intro hK
  have ha : Aft cx κ F w U κ F w (Un U nm) σ := Aft.same hr.orel
  exact hnext .und [] undef κ F w hK (fun _ h => h) (Wx.refl _ _) ⟨hr.env.put ha (by unfold RV; rfl) (by unfold NB; trivial), ha.orel⟩
 have hss : Sound P cx κ F w U nm σ o a.eval (spec ty Γ σ (evalA env) nm o) := spec_sound hty hΓ hr.orel hf (fun x => eval_of hr.env) (fun x => eval_nb hr.env x) (fun f => rfl)
 unfold gspec at hT
 split at hT
 ·rename_i hg
  rw [if_pos (by simp [Region.wanted, hg])]
  exact main _ hss hT
 ·rename_i j want hg
  split at hT
  ·exact hT.elim
  ·rename_i d hd
   have hv := hr.env.rv d
   have hy : ∀ b, a.tmps.getD d undef = .bool b → yielded ops a.tmps j = some b := by
    intro b hb
    simp only [yielded, hd]
    have : a.tmps[d]? = some (.bool b) := by
     rw [Array.getD_eq_getD_getElem?] at hb
     cases hx : a.tmps[d]? with
     | none => rw [hx] at hb; simp [undef] at hb
     | some y => rw [hx] at hb; simpa using hb
    simp [this]
   split at hT
   ·rename_i hund
    rw [hund] at hv
    unfold RV at hv
    have hno : yielded ops a.tmps j = none := by
     simp only [yielded, hd]
     rw [Array.getD_eq_getD_getElem?] at hv
     cases hx : a.tmps[d]? with
     | none => simp [hx]
     | some y => rw [hx] at hv; simp at hv; subst hv; simp [hx, undef]
    rw [if_neg (by simp [Region.wanted, hg, hno])]
    exact skip hT.2
   ·rename_i b hb
    rw [hb] at hv
    unfold RV RD at hv
    have hyb := hy b hv.1
    cases want <;> cases b
    ·rw [if_pos (by simp [Region.wanted, hg, hyb])]
     exact main _ hss hT
    ·rw [if_neg (by simp [Region.wanted, hg, hyb])]
     exact skip hT.2
    ·rw [if_neg (by simp [Region.wanted, hg, hyb])]
     exact skip hT.2
    ·rw [if_pos (by simp [Region.wanted, hg, hyb])]
     exact main _ hss hT
   ·exact hT.elim

theorem run_sound (hty : ∀ t x, ty t = some x → TyOK P t x) (hΓ : ∀ f S, Γ f = some S → FnOK P cx.J f S) {ops : Array Oper} {Q : Exit → Act → World → Prop} {Kf : List AV → Objs → Nat → Prop} :
  ∀ (l : List Oper) (nm : Nat) (κ : Kap) (F : Nat → Prop) (env : List AV) (σ : Objs) (a : Act) (w : World), RelU cx κ F (· < nm) env σ a w → runOps ty Γ ops Kf l nm env σ →
   (∀ κ' F' env' σ' m a' w', Kf env' σ' m → (∀ b, F b → F' b) → Wy cx F w w' → RelU cx κ' F' (· < m) env' σ' a' w' → Q .normal a' w') → wpList P ops Q l a w
 | [], nm, κ, F, env, σ, a, w, hr, hk, hq => wpList_nil (hq κ F env σ nm a w hk (fun _ h => h) (Wx.refl _ _) hr)
 | o :: l, nm, κ, F, env, σ, a, w, hr, hk, hq => by
  refine wpList_step fun K hK => ?_
  refine step_sound hty hΓ hr (nm := nm) (fun j _ => by omega) hk ?_
  intro av δ v κ' F' w' hk' hF hw hr'
  refine hK _ _ (run_sound hty hΓ l (nm + 16) κ' F' _ _ _ w' ⟨?_, ?_⟩ hk' ?_)
  ·have : (Un (· < nm) nm) = (· < nm + 16) := by funext n; simp only [Un, eq_iff_iff]; omega
   rw [← this]; exact hr'.env
  ·have : (Un (· < nm) nm) = (· < nm + 16) := by funext n; simp only [Un, eq_iff_iff]; omega
   rw [← this]; exact hr'.orel
  ·intro κ2 F2 env2 σ2 m a2 w2 h1 h2 h3 h4
   exact hq κ2 F2 env2 σ2 m a2 w2 h1 (fun b hb => h2 b (hF b hb)) (hw.trans h3 (fun b hb => hb.imp (hF b) id)) h4

theorem Ok_region (hty : ∀ t x, ty t = some x → TyOK P t x) (hΓ : ∀ f S, Γ f = some S → FnOK P cx.J f S) {Q : Exit → St → Prop} {env : List AV} {σ : Objs} {nx : Nat} {id : Nat} {l : List Oper}
  (h : runOps ty Γ l.toArray (fun env σ m => Q .normal ⟨env, σ, m⟩) l nx env σ) : Ok P cx (.region id l.toArray false) Q ⟨env, σ, nx⟩ := by
 intro κ F a w hr
 refine wp_region_lit (run_sound hty hΓ l nx κ F env σ a w ⟨hr.env, hr.orel⟩ h ?_)
 intro κ' F' env' σ' m a' w' h1 h2 h3 h4
 exact ⟨κ', F', ⟨env', σ', m⟩, h1, h2, h3, h4.env, h4.orel⟩

end
end Go.Ab
