/- My own layer, eighteenth part: a region that draws its order is walked once, in the text's order. -/
import Derived.Test.YtjahononbnbjnaaAbDraw3
namespace Go.Ab
set_option linter.unusedVariables false
set_option linter.unusedSimpArgs false
section
variable {P : Program} {cx : Cx} {κ : Kap} {F : Nat → Prop} {w : World} {nm : Nat} {σ : Objs} {ty : TypeId → Option TyE} {Γ : Nat → Option FnSpec} {ops : Array Oper} {M : Nat → List Nat} {base : Nat}

theorem Spec.T_mono {K K' : AV → Delta → Prop} (h : ∀ av δ, K av δ → K' av δ) {s : Spec} (hs : s.T K) : s.T K' := by
 rw [Spec.T_iff] at *
 exact ⟨hs.1, fun av δ hr => h _ _ (hs.2 av δ hr)⟩

theorem okM_put' {i : Nat} {o : Oper} {env : List AV} {dst : Option Tmp} {v : AV} (h : ∀ d, dst = some d → d ∉ o.looksAt ops) (ho : OkM ty Γ ops M i o (putA env dst v) σ) : OkM ty Γ ops M i o env σ := by
 unfold OkM at *
 rw [rdset_put h] at ho; exact ho

theorem keys_apart {i j : Nat} {oi oj : Oper} {env : List AV} {listed : Array Bool} (hi : ops[i]? = some oi) (hj : ops[j]? = some oj) (hij : i ≠ j) (he : edgeB ops i j = false ∧ edgeB ops j i = false)
  (hfi : freeM ty Γ M ops i = true) (hni : listed.getD i false = false) (hnj : listed.getD j false = false) (hN : NBE (Ul base listed) env σ) (hoi : OkM ty Γ ops M i oi env σ) (hoj : OkM ty Γ ops M j oj env σ) {av av' : AV} {δ ε : Delta}
  (ht : Tame (Ul base listed) (base + 16 * i) (fun n => mutB ty Γ oi = true ∧ n ∈ rdset σ (evalA env) oi) av δ)
  (ht' : Tame (Ul base listed) (base + 16 * j) (fun n => mutB ty Γ oj = true ∧ n ∈ rdset σ (evalA env) oj) av' ε) : ∀ p ∈ δ, ∀ q ∈ ε, p.1 ≠ q.1 := by
 intro p hp q hq heq
 rcases ht.key p hp with hr | ⟨hm, hin⟩
 ·rcases ht'.key q hq with hr' | ⟨hm', hin'⟩
  ·have a := hr.1; have b := hr.2; have c := hr'.1; have d := hr'.2
   omega
  ·exact ul_fresh hni hr (heq ▸ rdset_nb hN oj q.1 hin')
 ·rcases ht'.key q hq with hr' | ⟨hm', hin'⟩
  ·exact ul_fresh hnj hr' (heq ▸ rdset_nb hN oi p.1 hin)
  ·unfold freeM at hfi
   rw [hi] at hfi
   simp only [Option.any_some, hm, Bool.not_true, Bool.false_or] at hfi
   have := tied_edge (Γ := Γ) hj hm' (meet_of (okM_mem hoj hm' hin') (heq ▸ okM_mem hoi hm hin)) (Ne.symm hij) he.1
   rw [this] at hfi; cases hfi

theorem getD_false_of_true {listed : Array Bool} {i : Nat} (h : listed.getD i true = false) : listed.getD i false = false := by
 rw [Array.getD_eq_getD_getElem?] at *
 cases hx : listed[i]? with
 | none => rfl
 | some b => rw [hx] at h; simpa using h

theorem size_of_getD {listed : Array Bool} {i : Nat} (h : listed.getD i true = false) : i < listed.size := by
 rw [Array.getD_eq_getD_getElem?] at h
 rcases Nat.lt_or_ge i listed.size with h' | h'
 ·exact h'
 ·rw [Array.getElem?_eq_none h'] at h; simp at h

theorem anyA_first (hl : Live Γ) (hfm : ∀ k, freeM ty Γ M ops k = true) {K : List AV → Objs → Prop} {i : Nat} {oi : Oper} (hi : ops[i]? = some oi) :
  ∀ (fuel : Nat) (listed : Array Bool) (env : List AV) (σ : Objs),
   (∀ j oj, ops[j]? = some oj → j ≠ i → listed.getD j true = false → (∀ e ∈ oj.after, Region.binds .any e = true → e.on ≠ i) → oi.apart ops oj = true) →
   ClosedL ops listed → i ∈ Region.ready .any ops listed → TA ty Γ ops M base i env σ (anyA ty Γ ops M base K fuel (listed.setIfInBounds i true)) → anyA ty Γ ops M base K (fuel + 1) listed env σ := by
 intro fuel
 induction fuel with
 | zero =>
  intro listed env σ _ hcl hr H
  intro hN
  refine ⟨fun h => (by rw [h] at hr; cases hr), fun j hj => ?_⟩
  by_cases hji : j = i
  ·subst hji; exact H
  ·exfalso
   unfold TA at H
   simp only [hi] at H
   obtain ⟨hp, hK⟩ := Spec.T_iff.1 H.2
   obtain ⟨⟨av, δ, hR⟩, ht⟩ := tame_g (nm := base + 16 * i) (ty := ty) (ops := ops) hl hN (o := oi) hp
   have hs := size_of_getD (mem_ready.1 hr).1
   have h1 := hK av δ hR (by rw [← ul_set (base := base) hs]; exact hN.put (ht av δ hR))
   have := ready_mono hj hji
   rw [h1.1] at this
   cases this
 | succ fuel ih =>
  intro listed env σ hfree hcl hr H
  intro hN
  refine ⟨fun h => (by rw [h] at hr; cases hr), fun j hj => ?_⟩
  by_cases hji : j = i
  ·subst hji; exact H
  obtain ⟨hjun, oj, hoj, hall⟩ := mem_ready.1 hj
  have hiun := (mem_ready.1 hr).1
  obtain ⟨_, oi', hoi', halli⟩ := mem_ready.1 hr
  rw [hi] at hoi'; cases hoi'
  have hnot : ∀ e ∈ oj.after, Region.binds .any e = true → e.on ≠ i := fun e he hb heq => by
   have h1 := hall e he hb
   rw [heq, getD_false_of_true hiun] at h1; cases h1
  have hnot' : ∀ e ∈ oi.after, Region.binds .any e = true → e.on ≠ j := fun e he hb heq => by
   have h1 := halli e he hb
   rw [heq, getD_false_of_true hjun] at h1; cases h1
  have hed : edgeB ops i j = false ∧ edgeB ops j i = false := edge_apart hcl hi hoj (getD_false_of_true hiun) (getD_false_of_true hjun) hall halli
  obtain ⟨a1, a2, a3⟩ := Oper.apart_spec (hfree j oj hoj hji hjun hnot)
  have hsi := size_of_getD hiun
  have hsj := size_of_getD hjun
  have hfi := getD_false_of_true hiun
  have hfj := getD_false_of_true hjun
  have H0 := H
  unfold TA at H0
  simp only [hi] at H0
  obtain ⟨hOi, hTi⟩ := H0
  obtain ⟨hpi, hKi⟩ := Spec.T_iff.1 hTi
  obtain ⟨⟨av0, δ0, hR0⟩, hti⟩ := tame_g (nm := base + 16 * i) (ty := ty) (ops := ops) hl hN (o := oi) hpi
  -- behind i, j comes up as it would before
  have after_i : ∀ av δ, (gspec ty Γ ops σ env (base + 16 * i) oi).R av δ → OkM ty Γ ops M j oj env σ ∧
    (gspec ty Γ ops σ env (base + 16 * j) oj).T fun av' δ' => anyA ty Γ ops M base K fuel ((listed.setIfInBounds i true).setIfInBounds j true) (putA (putA env oi.dst av) oj.dst av') (app δ' (app δ σ)) := by
   intro av δ hR
   have hNi : NBE (Ul base (listed.setIfInBounds i true)) (putA env oi.dst av) (app δ σ) := by rw [← ul_set (base := base) hsi]; exact hN.put (hti av δ hR)
   have h1 := (hKi av δ hR hNi).2 j (ready_mono hj hji)
   unfold TA at h1
   simp only [hoj] at h1
   obtain ⟨hOj, hTj⟩ := h1
   have hOj2 := okM_put' a1 hOj
   have hOj' : OkM ty Γ ops M j oj env σ := (okM_congr (σ := σ) fun n hn => app_at δ σ n fun p hp heq => apart_M0 hi hoj (Ne.symm hji) hed (hfm i) hfi rfl hN hOi hOj2 (hti av δ hR) p hp (heq ▸ hn)).1 hOj2
   refine ⟨hOj', ?_⟩
   rw [gspec_put a1, gspec_ob (σ := σ)] at hTj
   ·exact hTj
   ·intro n hn
    exact app_at δ σ n fun p hp heq => apart_M hi hoj (Ne.symm hji) hed (hfm i) hfi rfl hN hOi hOj' (hti av δ hR) p hp (heq ▸ hn)
  obtain ⟨hOj, hTj0⟩ := after_i av0 δ0 hR0
  obtain ⟨hpj, _⟩ := Spec.T_iff.1 hTj0
  obtain ⟨_, htj⟩ := tame_g (nm := base + 16 * j) (ty := ty) (ops := ops) hl hN (o := oj) hpj
  unfold TA
  simp only [hoj]
  refine ⟨hOj, Spec.T_iff.2 ⟨hpj, fun av' δ' hR' => ?_⟩⟩
  refine ih (listed.setIfInBounds j true) _ _ ?_ (closed_set hcl fun o ho e he hb => by rw [hoj] at ho; cases ho; exact hall e he hb) (ready_mono hr (Ne.symm hji)) ?_
  ·intro k ok hk hki hun hno
   refine hfree k ok hk hki ?_ hno
   by_cases hjk : j = k
   ·subst hjk; exact hjun
   ·rw [getD_set_ne true hjk] at hun; exact hun
  ·unfold TA
   simp only [hi]
   refine ⟨okM_put a3 ((okM_congr (σ := σ) fun n hn => app_at δ' σ n fun p hp heq => apart_M0 hoj hi hji ⟨hed.2, hed.1⟩ (hfm j) hfj rfl hN hOj hOi (htj av' δ' hR') p hp (heq ▸ hn)).2 hOi), ?_⟩
   rw [gspec_put a3, gspec_ob (σ := σ)]
   ·refine Spec.T_iff.2 ⟨hpi, fun av δ hR => ?_⟩
    obtain ⟨_, hTj⟩ := after_i av δ hR
    have := (Spec.T_iff.1 hTj).2 av' δ' hR'
    rw [Array.setIfInBounds_comm _ _ hji, putA_comm env av' av (fun d hd h => a2 d h hd), app_comm δ δ' σ (keys_apart hi hoj (Ne.symm hji) hed (hfm i) hfi hfj hN hOi hOj (hti av δ hR) (htj av' δ' hR'))]
    exact this
   ·intro n hn
    exact app_at δ' σ n fun p hp heq => apart_M hoj hi hji ⟨hed.2, hed.1⟩ (hfm j) hfj rfl hN hOj hOi (htj av' δ' hR') p hp (heq ▸ hn)

theorem anyA_lex (hl : Live Γ) (hfm : ∀ k, freeM ty Γ M ops k = true) {K : List AV → Objs → Nat → Prop} : ∀ (l : List Oper) (k : Nat) (listed : Array Bool) (env : List AV) (σ : Objs), (∀ j, l[j]? = ops[k + j]?) → k + l.length = ops.size →
  ClosedL ops listed → Region.lexFrom .any ops l.length k listed = true → runD ty Γ ops M K l k (base + 16 * k) env σ → anyA ty Γ ops M base (fun env σ => K env σ (base + 16 * ops.size)) l.length listed env σ
 | [], k, listed, env, σ, _, hk, hcl, hB, h => fun _ => ⟨by simpa [Region.lexFrom] using hB, by simp at hk; subst hk; exact h⟩
 | o :: l, k, listed, env, σ, hls, hk, hcl, hB, h => by
  have h0 : ops[k]? = some o := by simpa using (hls 0).symm
  simp only [List.length_cons, Region.lexFrom, Bool.and_eq_true] at hB
  obtain ⟨⟨hr, hf⟩, hB'⟩ := hB
  refine anyA_first hl hfm h0 l.length listed env σ (Region.free_spec h0 hf) hcl (by simpa using hr) ?_
  unfold TA
  simp only [h0]
  refine ⟨h.1, Spec.T_mono (fun av δ hK => ?_) h.2⟩
  exact anyA_lex hl hfm l (k + 1) _ _ _ (fun j => by have := hls (j + 1); simpa [Nat.add_assoc, Nat.add_comm 1 j] using this) (by simp only [List.length_cons] at hk; omega) (closed_set hcl fun o' ho e he hb => by obtain ⟨_, o2, h2, hall⟩ := mem_ready.1 (show k ∈ Region.ready .any ops listed by simpa using hr); rw [h2] at ho; cases ho; exact hall e he hb) hB' (by rw [show base + 16 * (k + 1) = base + 16 * k + 16 by omega]; exact hK)

theorem RelU.nbe {U : Nat → Prop} {env : List AV} {a : Act} (h : RelU cx κ F U env σ a w) : NBE U env σ := ⟨h.env.nb, h.orel.nb⟩

theorem RelU.un {U U' : Nat → Prop} {env : List AV} {a : Act} (h : RelU cx κ F U env σ a w) (hu : ∀ n, U n → U' n) : RelU cx κ F U' env σ a w :=
 ⟨⟨h.env.size, h.env.dfr, h.env.rv, fun t => NB.mono hu (h.env.nb t)⟩, h.orel.un hu⟩

theorem anyA_sound (hty : ∀ t x, ty t = some x → TyOK P t x) (hΓ : ∀ f S, Γ f = some S → FnOK P cx.J f S) {K : List AV → Objs → Prop} {Q : Exit → Act → World → Prop} :
  ∀ (fuel : Nat) (listed : Array Bool) (κ : Kap) (F : Nat → Prop) (env : List AV) (σ : Objs) (a : Act) (w : World), RelU cx κ F (Ul base listed) env σ a w → listed.size = ops.size → anyA ty Γ ops M base K fuel listed env σ →
   (∀ κ' F' env' σ' a' w', K env' σ' → (∀ b, F b → F' b) → Wy cx F w w' → RelU cx κ' F' (· < base + 16 * ops.size) env' σ' a' w' → Q .normal a' w') → wpAny P .any ops Q fuel listed a w := by
 have last : ∀ (listed : Array Bool) (κ : Kap) (F : Nat → Prop) (env : List AV) (σ : Objs) (a : Act) (w : World), RelU cx κ F (Ul base listed) env σ a w → listed.size = ops.size → RelU cx κ F (· < base + 16 * ops.size) env σ a w := by
  intro listed κ F env σ a w hr hs
  refine hr.un ?_
  rintro n (h | ⟨i, hi, h⟩)
  ·show n < _; omega
  ·have : i < listed.size := by
    rcases Nat.lt_or_ge i listed.size with h' | h'
    ·exact h'
    ·rw [Array.getD_eq_getD_getElem?, Array.getElem?_eq_none h'] at hi; simp at hi
   have := h.2
   show n < _; omega
 intro fuel
 induction fuel with
 | zero =>
  intro listed κ F env σ a w hr hs h hq
  obtain ⟨h1, h2⟩ := h hr.nbe
  exact ⟨h1, hq κ F env σ a w h2 (fun _ h => h) (Wx.refl _ _) (last listed κ F env σ a w hr hs)⟩
 | succ fuel ih =>
  intro listed κ F env σ a w hr hs h hq
  obtain ⟨h1, h2⟩ := h hr.nbe
  refine ⟨fun h0 => hq κ F env σ a w (h1 h0) (fun _ h => h) (Wx.refl _ _) (last listed κ F env σ a w hr hs), fun i hi => ?_⟩
  have hT := h2 i hi
  have hun := (mem_ready.1 hi).1
  unfold TA at hT
  unfold wpOp
  cases hoi : ops[i]? with
  | none => simp only [hoi] at hT
  | some o =>
   simp only [hoi] at hT ⊢
   have := step_sound (nm := base + 16 * i) (ops := ops) (next := wpAny P .any ops Q fuel (listed.setIfInBounds i true)) (Q := Q) hty hΓ hr (fun j hj => ul_fresh (getD_false_of_true hun) ⟨by omega, by omega⟩) hT.2 ?_
   ·split
    ·rename_i hw; rw [if_pos hw] at this; exact .inl this
    ·rename_i hw; rw [if_neg hw] at this; exact this
   ·intro av δ v κ' F' w' hK hF hW hr'
    rw [ul_set (base := base) (size_of_getD hun)] at hr'
    refine ih _ κ' F' _ _ _ w' hr' (by simpa using hs) hK ?_
    intro κ2 F2 env2 σ2 a2 w2 g1 g2 g3 g4
    exact hq κ2 F2 env2 σ2 a2 w2 g1 (fun b hb => g2 b (hF b hb)) (hW.trans g3 (fun b hb => hb.imp (hF b) id)) g4

theorem freeM_all (h : lexM ty Γ M ops = true) (k : Nat) : freeM ty Γ M ops k = true := by
 rcases Nat.lt_or_ge k ops.size with hk | hk
 ·exact (List.all_eq_true.1 h) k (List.mem_range.2 hk)
 ·unfold freeM; rw [Array.getElem?_eq_none hk]; rfl

theorem wy_drawn {F : Nat → Prop} {k : Nat} : Wy cx F w { w with drawn := k } := (Wx.refl _ w).trans ⟨rfl, rfl, rfl, Nat.le_refl _, fun _ _ => rfl⟩ fun _ h => h

theorem RelU.drawn {U : Nat → Prop} {env : List AV} {a : Act} {k : Nat} (h : RelU cx κ F U env σ a w) : RelU cx κ F U env σ a { w with drawn := k } := by
 refine ⟨⟨h.env.size, h.env.dfr, fun t => RV.mono (w := w) (w' := { w with drawn := k }) (κ := κ) (fun _ _ => rfl) (fun _ h => h) (fun _ _ => rfl) (h.env.nb t) (h.env.rv t), h.env.nb⟩, ?_⟩
 refine ⟨fun o x hx => ObjOK.mono (w := w) (w' := { w with drawn := k }) (κ := κ) (fun _ _ => rfl) (fun _ h => h) (fun _ _ => rfl) (h.orel.nb o x hx).1 (h.orel.nb o x hx).2 ?_ (h.orel.ok o x hx), h.orel.nb, h.orel.free, h.orel.apart, h.orel.fG, h.orel.kB, h.orel.gB, h.orel.bs, h.orel.inv.mono (fun _ h => h) (fun _ _ => rfl), h.orel.lt⟩
 intro _ _; rfl

theorem Ok_draw (hm : P.follows .mixedOrders = true) (hty : ∀ t x, ty t = some x → TyOK P t x) (hΓ : ∀ f S, Γ f = some S → FnOK P cx.J f S) (hl : Live Γ) {Q : Exit → St → Prop} {env : List AV} {σ : Objs} {nx : Nat} {id : Nat} {l : List Oper} (M : Nat → List Nat)
  (hB : Region.lexB .any l.toArray = true) (hM : lexM ty Γ M l.toArray = true) (h : runD ty Γ l.toArray M (fun env σ m => Q .normal ⟨env, σ, m⟩) l 0 nx env σ) : Ok P cx (.region id l.toArray true) Q ⟨env, σ, nx⟩ := by
 intro κ F a w hr
 refine wp_region_any hm ?_
 simp only [Region.lexB, Bool.and_eq_true] at hB
 have hlex := anyA_lex (base := nx) hl (freeM_all hM) l 0 (Array.replicate l.toArray.size false) env σ (by simp) (by simp) closed_none (by simpa using hB.2) (by simpa using h)
 have hU : ∀ n, n < nx → Ul nx (Array.replicate l.toArray.size false) n := fun n hn => .inl hn
 have hr0 : RelU cx κ F (· < nx) env σ a w := ⟨hr.env, hr.orel⟩
 refine anyA_sound hty hΓ _ _ κ F env σ a _ ((hr0.un hU).drawn) (by simp) (by simpa using hlex) ?_
 intro κ' F' env' σ' a' w' h1 h2 h3 h4
 exact ⟨κ', F', ⟨env', σ', _⟩, h1, h2, wy_drawn.trans h3 (fun b hb => hb), ⟨h4.env, h4.orel⟩⟩

end
end Go.Ab
