/- My own layer: a row of a table is lent to a call: it is taken out ahead of it and put back behind it. -/
import Derived.Test.YtjahononbnbjnaaAbEx3b
namespace Go.Ab
set_option linter.unusedVariables false
set_option linter.unusedSimpArgs false
section
variable {P : Program} {cx : Cx} {κ : Kap} {F : Nat → Prop} {w : World} {U : Nat → Prop} {nm : Nat} {σ : Objs} {ty : TypeId → Option TyE} {Γ : Nat → Option FnSpec}

theorem nbeq {a b : Nat} (h : a ≠ b) : Nat.beq a b = false := by
  cases hb : Nat.beq a b with
  | true => exact absurd (Nat.eq_of_beq_eq_true hb) h
  | false => rfl
/-- An array that is a table's missing row is put back. -/
theorem orel_back (ho : ORel cx κ F w U σ) {n o g k j : Nat} (hno : n ≠ o) {t : TabV} (ht : tabAt σ o g = some t) (hh : t.hole = some (k, j)) (hk : k < t.l.length) {e' : TypeId} (hm : maskAt t.mask j = some e') {es' : Nat} {rows : List D} (hn : σ n = some (.arr e' es' rows)) (hκ : (κ n).v = (κ g).r k j) :
    ORel cx κ F w U (upd (upd σ n none) o (some (.tab t.e t.es t.mask (t.l.set k (setCell (t.l.getD k (.sc undef)) j (.sl es' rows))) g none))) := by
  have hob := tabAt_some ht
  rw [hh] at hob
  have hnbo := ho.nb o _ hob
  have htab : TabOK F w t.e t.es t.mask t.l (κ o).v (κ g).r (some (k, j)) := ho.ok o _ hob
  have harr : ArrOK F w e' es' (κ n).v rows := ho.ok n _ hn
  have hkd := getD_of_lt (d := D.sc undef) hk
  have hjm : j < t.mask.length := mask_lt (by rw [hm]; rfl)
  have hje : j < t.es := Nat.lt_of_lt_of_le hjm htab.mlen
  have hsc : (setCell (t.l.getD k (.sc undef)) j (.sl es' rows)).cells = (t.l.getD k (.sc undef)).cells.set j (.sl es' rows) := setCell_cells (htab.cells k _ hkd) hje rfl
  have hrow' : ∀ k' j', isRow t.mask t.l.length none k' j' → (k', j') ≠ (k, j) → isRow t.mask t.l.length (some (k, j)) k' j' := fun k' j' h hne => ⟨h.1, h.2.1, fun e => hne (by cases e; rfl)⟩
  have bn : ∀ {b : Nat}, blk ((κ g).r k j) = some b → Blk κ n (.arr e' es' rows) b := fun hb => .inl (by rw [hκ]; exact hb)
  have bo : ∀ {k' j' b : Nat}, isRow t.mask t.l.length (some (k, j)) k' j' → blk ((κ g).r k' j') = some b → Blk κ o (.tab t.e t.es t.mask t.l g (some (k, j))) b := fun hr hb => .inr ⟨_, _, hr, hb⟩
  have hσ : ∀ m y, upd (upd σ n none) o (some (.tab t.e t.es t.mask (t.l.set k (setCell (t.l.getD k (.sc undef)) j (.sl es' rows))) g none)) m = some y →
      (m = o ∧ y = .tab t.e t.es t.mask (t.l.set k (setCell (t.l.getD k (.sc undef)) j (.sl es' rows))) g none) ∨ (m ≠ o ∧ m ≠ n ∧ σ m = some y) := fun m y hy => by
    by_cases h1 : m = o
    · subst h1; rw [upd_same] at hy; exact .inl ⟨rfl, (Option.some.inj hy).symm⟩
    · rw [upd_ne h1] at hy
      by_cases h2 : m = n
      · subst h2; rw [upd_same] at hy; cases hy
      · rw [upd_ne h2] at hy; exact .inr ⟨h1, h2, hy⟩
  have hblk : ∀ b, Blk κ o (.tab t.e t.es t.mask (t.l.set k (setCell (t.l.getD k (.sc undef)) j (.sl es' rows))) g none) b → (∃ x, σ o = some x ∧ Blk κ o x b) ∨ Blk κ n (.arr e' es' rows) b := fun b hb => by
    rcases hb with hb | ⟨k', j', hr, hb⟩
    · exact .inl ⟨_, hob, .inl hb⟩
    · rw [List.length_set] at hr
      by_cases hkj : (k', j') = (k, j)
      · simp only [Prod.mk.injEq] at hkj
        obtain ⟨rfl, rfl⟩ := hkj
        exact .inr (bn hb)
      · exact .inl ⟨_, hob, bo (hrow' k' j' hr hkj) hb⟩
  refine ⟨fun m y hy => ?_, fun m y hy => ?_, fun m y hy b hb => ?_, fun m y m' y' hy hy' hne b hb hb' => ?_, ho.fG, ho.kB, ho.gB, ho.bs, ho.inv, ho.lt⟩
  · rcases hσ m y hy with ⟨rfl, rfl⟩ | ⟨_, _, h3⟩
    · show TabOK F w t.e t.es t.mask _ (κ m).v (κ g).r none
      obtain ⟨us, hown, hul, hc⟩ := htab.mem
      refine ⟨htab.pos, htab.mlen, fun k' d hk' => ?_, ⟨us, by rw [List.length_set]; exact hown, by rw [List.length_set]; exact hul, fun k' d j' c hk' hd => ?_⟩, fun k1 j1 k2 j2 q1 q2 hne b hb1 hb2 => ?_, fun k1 j1 q1 b hb1 hb2 => ?_⟩
      · by_cases hkk : k' = k
        · subst hkk
          rw [List.getElem?_set_self hk] at hk'; cases hk'
          rw [hsc, List.length_set]; exact htab.cells _ _ hkd
        · rw [List.getElem?_set_ne (Ne.symm hkk)] at hk'; exact htab.cells _ _ hk'
      · have old : ∀ d c, t.l[k']? = some d → d.cells[j']? = some c → ((k', j') ≠ (k, j)) → ∃ x, us[k' * t.es + j']? = some x ∧ one x = true ∧ match maskAt t.mask j' with
            | none => RD F w c x
            | some e' => x = (κ g).r k' j' ∧ (none = some (k', j') ∨ ∃ es' rows, c = .sl es' rows ∧ ArrOK F w e' es' x rows) := by
          intro d c hk' hd hne
          obtain ⟨x, h1, h2, h3⟩ := hc k' d j' c hk' hd
          refine ⟨x, h1, h2, ?_⟩
          cases hm' : maskAt t.mask j' with
          | none => rw [hm'] at h3; exact h3
          | some e2 =>
            rw [hm'] at h3
            simp only [] at h3 ⊢
            rcases h3 with ⟨h4, h3 | h3⟩
            · exact absurd (by cases h3; rfl) hne
            · exact ⟨h4, .inr h3⟩
        by_cases hkk : k' = k
        · subst hkk
          rw [List.getElem?_set_self hk] at hk'; cases hk'
          rw [hsc] at hd
          by_cases hjj : j' = j
          · subst hjj
            have hjc : j' < (t.l.getD k' (.sc undef)).cells.length := by rw [htab.cells _ _ hkd]; exact hje
            rw [List.getElem?_set_self hjc] at hd; cases hd
            obtain ⟨x, h1, h2, h3⟩ := hc k' _ j' _ hkd (getD_of_lt (d := D.sc undef) hjc)
            refine ⟨x, h1, h2, ?_⟩
            rw [hm] at h3 ⊢
            exact ⟨h3.1, .inr ⟨es', rows, rfl, by rw [h3.1, ← hκ]; exact harr⟩⟩
          · rw [List.getElem?_set_ne (Ne.symm hjj)] at hd
            exact old _ _ hkd hd (by simp [hjj])
        · rw [List.getElem?_set_ne (Ne.symm hkk)] at hk'
          exact old _ _ hk' hd (by simp [hkk])
      · rw [List.length_set] at q1 q2
        by_cases h1 : (k1, j1) = (k, j)
        · have h2 : (k2, j2) ≠ (k, j) := fun e => hne (h1.trans e.symm)
          simp only [Prod.mk.injEq] at h1
          obtain ⟨rfl, rfl⟩ := h1
          exact ho.apart n _ m _ hn hob hno b (bn hb1) (bo (hrow' _ _ q2 h2) hb2)
        · by_cases h2 : (k2, j2) = (k, j)
          · simp only [Prod.mk.injEq] at h2
            obtain ⟨rfl, rfl⟩ := h2
            exact ho.apart n _ m _ hn hob hno b (bn hb2) (bo (hrow' _ _ q1 h1) hb1)
          · exact htab.apart k1 j1 k2 j2 (hrow' _ _ q1 h1) (hrow' _ _ q2 h2) hne b hb1 hb2
      · rw [List.length_set] at q1
        by_cases h1 : (k1, j1) = (k, j)
        · simp only [Prod.mk.injEq] at h1
          obtain ⟨rfl, rfl⟩ := h1
          exact ho.apart n _ m _ hn hob hno b (bn hb1) (.inl hb2)
        · exact htab.outer k1 j1 (hrow' _ _ q1 h1) b hb1 hb2
    · exact ho.ok m y h3
  · rcases hσ m y hy with ⟨rfl, rfl⟩ | ⟨_, _, h3⟩
    · exact hnbo
    · exact ho.nb m y h3
  · rcases hσ m y hy with ⟨rfl, rfl⟩ | ⟨_, _, h3⟩
    · rcases hblk b hb with ⟨x, h1, h2⟩ | h1
      · exact ho.free m x h1 b h2
      · exact ho.free n _ hn b h1
    · exact ho.free m y h3 b hb
  · rcases hσ m y hy with ⟨rfl, rfl⟩ | ⟨h1, h2, h3⟩
    · rcases hσ m' y' hy' with ⟨rfl, _⟩ | ⟨g1, g2, g3⟩
      · exact hne rfl
      · rcases hblk b hb with ⟨x, q1, q2⟩ | q1
        · exact ho.apart m x m' y' q1 g3 hne b q2 hb'
        · exact ho.apart n _ m' y' hn g3 (Ne.symm g2) b q1 hb'
    · rcases hσ m' y' hy' with ⟨rfl, rfl⟩ | ⟨g1, g2, g3⟩
      · rcases hblk b hb' with ⟨x, q1, q2⟩ | q1
        · exact ho.apart m y m' x h3 q1 h1 b hb q2
        · exact ho.apart m y n _ h3 hn h2 b hb q1
      · exact ho.apart m y m' y' h3 g3 hne b hb hb'

/-- One operation without a guard; what names stand for goes on. -/
theorem step_sound1 (hty : ∀ t x, ty t = some x → TyOK P t x) (hΓ : ∀ f S, Γ f = some S → FnOK P cx.J f S) {ops : Array Oper} {env : List AV} {a : Act} (hr : RelU cx κ F U env σ a w) (hf : ∀ j, j < 16 → ¬ U (nm + j)) {o : Oper} (hg : o.guard = none) {K : AV → Delta → Prop} {next : Act → World → Prop} {Q : Exit → Act → World → Prop}
    (hT : (spec ty Γ σ (evalA env) nm o).T K)
    (hnext : ∀ av δ v κ' F' w', K av δ → (∀ o, U o → κ' o = κ o) → (∀ b, F b → F' b) → Wy cx F w w' → RelU cx κ' F' (Un U nm) (putA env o.dst av) (app δ σ) (a.put o.dst v) w' → next (a.put o.dst v) w') :
    if Region.wanted o (yielded ops a.tmps) then o.wp P a w next Q else next (a.put o.dst undef) w := by
  have hss : Sound P cx κ F w U nm σ o a.eval (spec ty Γ σ (evalA env) nm o) := spec_sound hty hΓ hr.orel hf (fun x => eval_of hr.env) (fun x => eval_nb hr.env x) (fun f => rfl)
  rw [if_pos (by simp [Region.wanted, hg])]
  obtain ⟨hp, hK⟩ := Spec.T_iff.1 hT
  refine (hss hp).wp ?_
  rintro v w' ⟨av, δ, κ', F', hR, ha, hv, hn⟩
  exact hnext av δ v κ' F' w' (hK av δ hR) ha.kap ha.fr ha.wx ⟨hr.env.put ha hv hn, ha.orel⟩

/-- The executor over the first operations. -/
theorem exW_app (hty : ∀ t x, ty t = some x → TyOK P t x) (hΓ : ∀ f S, Γ f = some S → FnOK P cx.J f S) {k n : Nat} (hk : cx.L = k) {chk : Nat → Oper → X → Bool} {ops : List Oper} {Q : Exit → Act → World → Prop} (tl : List Oper) :
    ∀ (l : List Oper) (i : Nat) (hs : List (Nat × H)) (x x' : X) (ps : List Prop) (κ : Kap) (F : Nat → Prop) (a : Act) (w : World), exR (some k) chk ty Γ ops n l i hs x = some (ps, x') → AllP ps → Rel cx κ F (x.st n) a w →
      (∀ κ' F' a' w', (∀ b, F b → F' b) → Wy cx F w w' → Rel cx κ' F' (x'.st n) a' w' → wpList P ops.toArray Q tl a' w') → wpList P ops.toArray Q (l ++ tl) a w
  | [], i, hs, x, x', ps, κ, F, a, w, h, hp, hr, hq => by
    unfold exR at h
    cases hb : isNilB hs with
    | false => rw [hb] at h; cases h
    | true =>
      rw [hb] at h; cases h
      exact hq κ F a w (fun _ h => h) (Wx.refl _ _) hr
  | o :: r, i, hs0, x0, x', ps, κ0, F0, a, w, h, hp, hr0, hq => by
    unfold exR at h
    cases hpre : preF (some k) n i hs0 x0 with
    | none => rw [hpre] at h; cases h
    | some xh =>
      obtain ⟨p0, x, hs⟩ := xh
      rw [hpre] at h
      simp only [] at h
      have hp0 : AllP p0 := by
        cases hch : chk i o x with
        | false => rw [hch] at h; cases h
        | true =>
          rw [hch] at h
          simp only [cond_true] at h
          split at h
          · cases h
          · split at h
            · cases h
            · cases h; exact hp.app.1
          · split at h
            · cases h
            · split at h
              · cases h
              · cases h; exact hp.app.1
      obtain ⟨κ, F, hF0, hr⟩ := preF_wk hk hpre hp0 κ0 F0 a w hr0
      have hrU : RelU cx κ F (· < x.nx) (envX n x.A) (obo x.L) a w := ⟨hr.env, hr.orel⟩
      have hun : (Un (· < x.nx) x.nx) = (· < x.nx + 16) := by funext m; simp only [Un, eq_iff_iff]; omega
      cases hch : chk i o x with
      | false => rw [hch] at h; cases h
      | true =>
        rw [hch] at h
        simp only [cond_true] at h
        refine wpList_step fun K hK => ?_
        cases hg : guardX ops n x.A o.guard with
        | none => rw [hg] at h; cases h
        | some b =>
          rw [hg] at h
          cases b with
          | true =>
            simp only [] at h
            split at h
            · cases h
            · rename_i ps1 av δ hst
              split at h
              · cases h
              · rename_i qs x2 hrec
                cases h
                obtain ⟨_, hp⟩ := hp.app
                obtain ⟨hp1, hp2⟩ := hp.app
                refine step_sound hty hΓ hrU (nm := x.nx) (K := fun av' δ' => av' = av ∧ δ' = δ) (fun j _ => by omega) (gspec_T hg (fun _ => stepX_sound hst hp1 ⟨rfl, rfl⟩) (fun hb => by cases hb)) ?_
                rintro av' δ' v κ' F' w' ⟨rfl, rfl⟩ hF hw hr'
                refine hK _ _ (exW_app hty hΓ hk tl r _ _ _ _ _ κ' F' _ _ hrec hp2 ?_ ?_)
                · rw [putX_eq, appX_eq, hun] at hr'
                  exact ⟨hr'.env, hr'.orel⟩
                · intro κ2 F2 a2 w2 h1 h2 h3
                  exact hq κ2 F2 a2 w2 (fun b hb => h1 b (hF b (hF0 b hb))) (Wx.trans (hw.mono fun b hb => hb.imp (hF0 b) id) h2 (fun b hb => hb.imp (fun hb => hF b (hF0 b hb)) id)) h3
          | false =>
            simp only [] at h
            split at h
            · cases h
            rename_i qs x2 hrec
            cases h
            obtain ⟨_, hp⟩ := hp.app
            refine step_sound hty hΓ hrU (nm := x.nx) (K := fun av' δ' => av' = .und ∧ δ' = []) (fun j _ => by omega) (gspec_T hg (fun hb => by cases hb) (fun _ => ⟨rfl, rfl⟩)) ?_
            rintro av' δ' v κ' F' w' ⟨rfl, rfl⟩ hF hw hr'
            refine hK _ _ (exW_app hty hΓ hk tl r _ _ _ _ _ κ' F' _ _ hrec hp ?_ ?_)
            · rw [putX_eq, hun] at hr'
              exact ⟨hr'.env, hr'.orel⟩
            · intro κ2 F2 a2 w2 h1 h2 h3
              exact hq κ2 F2 a2 w2 (fun b hb => h1 b (hF b (hF0 b hb))) (Wx.trans (hw.mono fun b hb => hb.imp (hF0 b) id) h2 (fun b hb => hb.imp (fun hb => hF b (hF0 b hb)) id)) h3
end

/-- The row in slot t is lent to the operation: dx: the table's element, h: the call's hint, l': the table behind it. -/
def lendX (ty : TypeId → Option TyE) (Γ : Nat → Option FnSpec) (n t : Nat) (dx : D) (l' : List D) (o : Oper) (h : Option H) (x : X) : Option (List Prop × X) :=
  match bif Nat.blt t n then lkA x.A t else .und with
  | .row ob g k j =>
    match tabAt (obo x.L) ob g with
    | some tv =>
      match tv.hole, maskAt tv.mask j with
      | none, some e' =>
        let x2 : X := ⟨(t, .own x.nx) :: x.A, (x.nx, some (.arr e' (rowD dx j).1 (rowD dx j).2)) :: (ob, some (.tab tv.e tv.es tv.mask tv.l g (some (k, j)))) :: x.L, x.nx + 16⟩
        match stepX ty Γ (obo x2.L) (evX n x2.A) x2.nx o h with
        | some (ps, av, δ) =>
          match obo (appX δ x2.L) x.nx, tabAt (obo (appX δ x2.L)) ob g with
          | some (.arr e2 es2 rows), some tw =>
            match tw.hole with
            | some (k2, j2) => bif Nat.beq e2 e' && Nat.beq j2 j && (match maskAt tw.mask j with | some e3 => Nat.beq e3 e' | none => false) && !Nat.beq x.nx ob && isNoG o && Nat.blt g x.nx && Nat.blt ob x.nx then
                some ((tv.l[k]? = some dx) :: (k2 = k) :: (tw.l[k]? = some dx) :: (tw.l.set k (setCell dx j (.sl es2 rows)) = l') :: ps,
                  ⟨putX ((t, .own x.nx) :: x.A) o.dst av, (ob, some (.tab tw.e tw.es tw.mask l' g none)) :: (x.nx, none) :: appX δ x2.L, x.nx + 32⟩)
              else none
            | none => none
          | _, _ => none
        | none => none
      | _, _ => none
    | none => none
  | _ => none
  where
  isNoG (o : Oper) : Bool := match o.guard with | none => true | some _ => false
section
variable {P : Program} {cx : Cx} {ty : TypeId → Option TyE} {Γ : Nat → Option FnSpec} {Q : Exit → Act → World → Prop}
theorem lendX_sound (hty : ∀ t x, ty t = some x → TyOK P t x) (hΓ : ∀ f S, Γ f = some S → FnOK P cx.J f S) {n t : Nat} {dx : D} {l' : List D} {o : Oper} {h : Option H} {x x' : X} {ps : List Prop} (hx : lendX ty Γ n t dx l' o h x = some (ps, x')) (hp : AllP ps) {ops rest : List Oper} {κ : Kap} {F : Nat → Prop} {a : Act} {w : World} (hr : Rel cx κ F (x.st n) a w)
    (hq : ∀ κ' F' a' w', (∀ b, F b → F' b) → Wy cx F w w' → Rel cx κ' F' (x'.st n) a' w' → wpList P ops.toArray Q rest a' w') : wpList P ops.toArray Q (o :: rest) a w := by
  unfold lendX at hx
  split at hx
  · rename_i ob g k j hrow
    split at hx
    · rename_i tv htv
      split at hx
      · rename_i e' hhole hmask
        simp only [] at hx
        split at hx
        · rename_i ps1 av δ hst
          split at hx
          · rename_i e2 es2 rows tw hn2 htw
            split at hx
            · rename_i k2 j2 hh2
              cases hb : (Nat.beq e2 e' && Nat.beq j2 j && (match maskAt tw.mask j with | some e3 => Nat.beq e3 e' | none => false) && !Nat.beq x.nx ob && lendX.isNoG o && Nat.blt g x.nx && Nat.blt ob x.nx) with
              | false => rw [hb] at hx; cases hx
              | true =>
                rw [hb] at hx
                cases hx
                simp only [Bool.and_eq_true] at hb
                obtain ⟨⟨⟨⟨⟨⟨b1, b2⟩, b3⟩, b4⟩, b5⟩, b6⟩, b7⟩ := hb
                have b1 := Nat.eq_of_beq_eq_true b1
                have b2 := Nat.eq_of_beq_eq_true b2
                subst b1; subst b2
                have b6 : g < x.nx := by simpa [Nat.blt_eq] using b6
                have b7 : ob < x.nx := by simpa [Nat.blt_eq] using b7
                have hg : o.guard = none := by
                  unfold lendX.isNoG at b5
                  split at b5
                  · assumption
                  · cases b5
                have hm3 : maskAt tw.mask j2 = some e2 := by
                  revert b3
                  split
                  · rename_i e3 he3; intro b3; rw [he3, Nat.eq_of_beq_eq_true b3]
                  · intro b3; cases b3
                cases hp with
                | cons p1 hp => cases hp with
                  | cons p2 hp => cases hp with
                    | cons p3 hp => cases hp with
                      | cons p4 hp =>
                        subst p2
                        have ho : ORel cx κ F w (· < x.nx) (obo x.L) := hr.orel
                        have hkl : k2 < tv.l.length := (List.getElem?_eq_some_iff.1 p1).1
                        have hrd : rowOf tv.l k2 j2 = ((rowD dx j2).1, (rowD dx j2).2) := by unfold rowOf; rw [List.getD_eq_getElem?_getD, p1]; rfl
                        have hs := orel_steal ho (n := x.nx) (by omega) htv hhole hkl hmask
                        rw [hrd] at hs
                        have hU : ∀ m, (m < x.nx ∨ m = x.nx) → m < x.nx + 16 := fun m hm => by omega
                        have hs2 := hs.un (U' := (· < x.nx + 16)) hU
                        -- the environment
                        have henv : EnvR (kapN κ x.nx (kv ((κ g).r k2 j2))) F w (· < x.nx + 16) (envX n ((t, .own x.nx) :: x.A)) a := by
                          have he := hr.env
                          refine ⟨by rw [he.size]; simp [X.st, envX], he.dfr, fun s => ?_, fun s => ?_⟩
                          all_goals
                            have hsle : SLe x.nx ob g k2 j2 ((envX n x.A).getD s .und) ((envX n ((t, AV.own x.nx) :: x.A)).getD s .und) := by
                              rw [envX_getD, envX_getD]
                              cases hb : Nat.blt s n with
                              | false => exact .inl rfl
                              | true =>
                                simp only [cond_true]
                                by_cases hst : s = t
                                · subst hst
                                  right
                                  rw [hb] at hrow
                                  exact ⟨hrow, by show (bif Nat.beq s s then _ else _) = _; simp⟩
                                · left
                                  rw [lkA_cons, if_neg hst]
                          · exact (sle_rv hsle (he.nb s) (he.rv s)).1
                          · exact (sle_rv hsle (he.nb s) (he.rv s)).2
                        have hσeq : obo ((x.nx, some (Obj'.arr e2 (rowD dx j2).1 (rowD dx j2).2)) :: (ob, some (.tab tv.e tv.es tv.mask tv.l g (some (k2, j2)))) :: x.L) = upd (upd (obo x.L) ob (some (.tab tv.e tv.es tv.mask tv.l g (some (k2, j2))))) x.nx (some (.arr e2 (rowD dx j2).1 (rowD dx j2).2)) := by
                          funext m
                          rw [obo_cons, obo_cons]
                          unfold upd
                          by_cases h1 : m = x.nx
                          · subst h1; simp
                          · rw [if_neg h1]
                            have q1 : Nat.beq m x.nx = false := nbeq h1
                            rw [q1]
                            by_cases h2 : m = ob
                            · subst h2; simp
                            · have q2 : Nat.beq m ob = false := nbeq h2
                              rw [if_neg h2, q2]; rfl
                        rw [← hσeq] at hs2
                        refine wpList_step fun K hK => ?_
                        refine step_sound1 hty hΓ (U := (· < x.nx + 16)) (nm := x.nx + 16) ⟨henv, hs2⟩ (fun j _ => by omega) hg (K := fun av' δ' => av' = av ∧ δ' = δ) (by rw [← evX_eq]; exact stepX_sound hst hp ⟨rfl, rfl⟩) ?_
                        rintro av' δ' v κ' F' w' ⟨rfl, rfl⟩ hκ hF hw hr'
                        refine hK _ _ (hq κ' F' _ w' hF hw ?_)
                        have hun : (Un (· < x.nx + 16) (x.nx + 16)) = (· < x.nx + 32) := by funext m; simp only [Un, eq_iff_iff]; omega
                        rw [putX_eq, appX_eq, hun] at hr'
                        have hκn : (κ' x.nx).v = (κ' g).r k2 j2 := by
                          rw [hκ x.nx (by omega), hκ g (by omega)]
                          have : g ≠ x.nx := by omega
                          simp [kapN, this]
                        have hb2 := orel_back hr'.orel (n := x.nx) (by omega) htw hh2 (List.getElem?_eq_some_iff.1 p3).1 hm3 hn2 hκn
                        have hσ2 : obo ((ob, some (Obj'.tab tw.e tw.es tw.mask l' g none)) :: (x.nx, none) :: appX δ' ((x.nx, some (.arr e2 (rowD dx j2).1 (rowD dx j2).2)) :: (ob, some (.tab tv.e tv.es tv.mask tv.l g (some (k2, j2)))) :: x.L)) = upd (upd (obo (appX δ' ((x.nx, some (.arr e2 (rowD dx j2).1 (rowD dx j2).2)) :: (ob, some (.tab tv.e tv.es tv.mask tv.l g (some (k2, j2)))) :: x.L))) x.nx none) ob (some (.tab tw.e tw.es tw.mask (tw.l.set k2 (setCell (tw.l.getD k2 (.sc undef)) j2 (.sl es2 rows))) g none)) := by
                          funext m
                          rw [obo_cons, obo_cons, getD_some p3, p4]
                          unfold upd
                          by_cases h1 : m = ob
                          · subst h1; simp
                          · rw [if_neg h1]
                            have q1 : Nat.beq m ob = false := nbeq h1
                            rw [q1]
                            by_cases h2 : m = x.nx
                            · subst h2; simp
                            · have q2 : Nat.beq m x.nx = false := nbeq h2
                              rw [if_neg h2, q2]; rfl
                        rw [← hσ2] at hb2
                        exact ⟨hr'.env, hb2⟩
            · cases hx
          · cases hx
        · cases hx
      · cases hx
    · cases hx
  · cases hx

variable {Q : Exit → St → Prop}
def hsB (m : Nat) : List (Nat × H) → List (Nat × H) × List (Nat × H)
  | [] => ([], [])
  | q :: r => bif Nat.blt q.1 m then (q :: (hsB m r).1, (hsB m r).2) else ([], q :: r)
/-- A region, a row being lent to its operation m. -/
def ldX (ty : TypeId → Option TyE) (Γ : Nat → Option FnSpec) (k n : Nat) (l : List Oper) (m t : Nat) (dx : D) (l' : List D) (hs : List (Nat × H)) (x : X) : Option (List Prop × X) :=
  match exR (some k) chk0 ty Γ l n (l.take m) 0 (hsB m hs).1 x with
  | some (p1, x1) => match l.drop m with
    | o :: l2 => match lendX ty Γ n t dx l' o (popH m (hsB m hs).2).1 x1 with
      | some (p2, x2) => match exR (some k) chk0 ty Γ l n l2 (m + 1) (popH m (hsB m hs).2).2 x2 with
        | some (p3, x3) => some (p1 ++ (p2 ++ p3), x3)
        | none => none
      | none => none
    | [] => none
  | none => none
/-- A region among whose operations one is lent a row. -/
theorem X_ld (hty : ∀ t x, ty t = some x → TyOK P t x) (hΓ : ∀ f S, Γ f = some S → FnOK P cx.J f S) {k : Nat} (hk : cx.L = k) {id n : Nat} {l : List Oper} {x : X} (m t : Nat) (dx : D) (l' : List D) (hs : List (Nat × H)) {ps : List Prop} (hp : AllP ps)
    (h : rP (ldX ty Γ k n l m t dx l' hs x) = some ps) (hq : Q .normal ((rX (ldX ty Γ k n l m t dx l' hs x)).st n)) : Ok P cx (.region id l.toArray false) Q (x.st n) := by
  cases he : ldX ty Γ k n l m t dx l' hs x with
  | none => rw [he] at h; cases h
  | some r =>
    obtain ⟨ps', x3⟩ := r
    rw [he] at h hq
    cases h
    unfold ldX at he
    split at he
    · rename_i p1 x1 e1
      split at he
      · rename_i o l2 hd
        split at he
        · rename_i p2 x2 e2
          split at he
          · rename_i p3 x4 e3
            cases he
            obtain ⟨hp1, hp⟩ := AllP.app hp
            obtain ⟨hp2, hp3⟩ := AllP.app hp
            have hl : l = l.take m ++ o :: l2 := by rw [← hd, List.take_append_drop]
            intro κ F a w hr
            refine wp_region_lit ?_
            have hw : wpList P l.toArray (Post cx Q F w) (l.take m ++ o :: l2) a w := by
              refine exW_app hty hΓ hk (o :: l2) (l.take m) 0 _ x x1 _ κ F a w e1 hp1 hr ?_
              intro κ1 F1 a1 w1 f1 g1 r1
              refine lendX_sound hty hΓ e2 hp2 r1 ?_
              intro κ2 F2 a2 w2 f2 g2 r2
              refine exW_sound hty hΓ hk l2 (m + 1) _ x2 x3 _ κ2 F2 a2 w2 e3 hp3 r2 ?_
              intro κ3 F3 a3 w3 f3 g3 r3
              refine ⟨κ3, F3, x3.st n, hq, fun b hb => f3 b (f2 b (f1 b hb)), ?_, r3⟩
              exact Wx.trans g1 (Wx.trans (g2.mono fun b hb => hb.imp (f1 b) fun z => z) (g3.mono fun b hb => hb.imp (fun hb => f2 b (f1 b hb)) fun z => z) fun b hb => hb) fun b hb => hb
            rw [← hl] at hw
            exact hw
          · cases he
        · cases he
      · cases he
    · cases he
end
end Go.Ab
