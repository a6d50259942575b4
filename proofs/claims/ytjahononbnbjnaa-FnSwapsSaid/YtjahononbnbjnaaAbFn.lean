/- My own layer, twelfth part: a function's contract from its body's triple. -/
import Derived.Test.YtjahononbnbjnaaAbRun
namespace Go.Ab
set_option linter.unusedVariables false
set_option linter.unusedSimpArgs false

def nilSl : Value := .slice none 0 0

mutual
def DLe : D → D → Prop
 | .sc v, d' => d' = .sc v ∨ (v = nilSl ∧ ∃ es, d' = .sl es [])
 | .sl es l, d' => d' = .sl es l
 | .agg l, d' => ∃ l', d' = .agg l' ∧ DLes l l'
def DLes : List D → List D → Prop
 | [], l' => l' = []
 | d :: l, l' => ∃ d' r, l' = d' :: r ∧ DLe d d' ∧ DLes l r
end

mutual
def Exp (k : Nat) (σ : Objs) (ns : List Nat) : AV → AV → Prop
 | .dat d, r => ∃ d', r = .dat d' ∧ DLe d d'
 | .own o, r => (∃ es l, slO σ o = some (es, l) ∧ o ∉ ns ∧ k ≤ o ∧ r = .dat (.sl es l)) ∨ ∃ j, ns[j]? = some o ∧ r = .own j
 | .aggv l, r => (∃ ds, r = .dat (.agg ds) ∧ ExpD k σ ns l ds) ∨ ∃ l', r = .aggv l' ∧ ExpL k σ ns l l'
 | .tup l, r => ∃ l', r = .tup l' ∧ ExpL k σ ns l l'
 | _, r => r = .unk
def ExpL (k : Nat) (σ : Objs) (ns : List Nat) : List AV → List AV → Prop
 | [], l' => l' = []
 | x :: l, l' => ∃ y r, l' = y :: r ∧ Exp k σ ns x y ∧ ExpL k σ ns l r
def ExpD (k : Nat) (σ : Objs) (ns : List Nat) : List AV → List D → Prop
 | [], l' => l' = []
 | x :: l, l' => ∃ y r, l' = y :: r ∧ Exp k σ ns x (.dat y) ∧ ExpD k σ ns l r
end

def resOne (ty : TypeId → Option TyE) (σ : Objs) (env : List AV) : ResultVar → Option AV
 | .tmp t => some (env.getD t .und)
 | .cell a t =>
  match env.getD a .und, ty t with
  | .ref o i, some T =>
   match σ o with
   | some (.box _ l) => if T.isAgg then (if i + T.size ≤ l.length then some (.aggv ((l.drop i).take T.size)) else none) else l[i]?
   | _ => none
  | _, _ => none
def resAll (ty : TypeId → Option TyE) (σ : Objs) (env : List AV) : List ResultVar → Option (List AV)
 | [] => some []
 | x :: l => match resOne ty σ env x, resAll ty σ env l with
  | some v, some r => some (v :: r)
  | _, _ => none
def resAV (ty : TypeId → Option TyE) (rs : List ResultVar) (σ : Objs) (env : List AV) : Option AV :=
 match resAll ty σ env rs with
 | some [x] => some x
 | some l => some (.tup l)
 | none => none

def Fin (ty : TypeId → Option TyE) (rs : List ResultVar) (k : Nat) (post : AV → List Obj' → List Obj' → Prop) (e : Exit) (s : St) : Prop :=
 (match e with | .normal | .ret => True | _ => False) ∧
 ∃ v r ns new obs', resAV ty rs s.ob s.env = some v ∧ Exp k s.ob ns v r ∧ post r new obs' ∧ objsOf s.ob ns = some new ∧ objsOf s.ob (List.range k) = some obs' ∧ ns.Nodup ∧ (∀ n ∈ ns, k ≤ n) ∧
  (∀ x ∈ new, NBl new.length x) ∧ (∀ x ∈ obs', NBl obs'.length x)

def lentOb (obs : List Obj') : Objs := fun n => (obs[n]?).map (·.regen n)

section
variable {P : Program} {cx : Cx} {κ : Kap} {F : Nat → Prop} {w : World} {U : Nat → Prop} {nm : Nat} {σ : Objs} {ty : TypeId → Option TyE} {Γ : Nat → Option FnSpec}

mutual
theorem RD.le : ∀ {d d' : D} {v : Value}, DLe d d' → RD F w d v → RD F w d' v
 | .sc u, d', v, h, hr => by
  unfold DLe at h
  rcases h with rfl | ⟨rfl, es, rfl⟩
  ·exact hr
  ·unfold RD at hr ⊢
   exact ⟨none, 0, hr.1, Nat.le_refl _, by unfold maxLen; omega, fun _ => rfl, .inl rfl⟩
 | .sl es l, d', v, h, hr => by unfold DLe at h; subst h; exact hr
 | .agg l, d', v, h, hr => by
  unfold DLe at h
  obtain ⟨l', rfl, h⟩ := h
  unfold RD at hr ⊢
  obtain ⟨cs, h1, h2⟩ := hr
  exact ⟨cs, h1, RC.le h h2⟩
theorem RC.le : ∀ {l l' : List D} {us : List Value}, DLes l l' → RC F w l us → RC F w l' us
 | [], l', us, h, hr => by unfold DLes at h; subst h; exact hr
 | d :: l, l', us, h, hr => by
  unfold DLes at h
  obtain ⟨d', r, rfl, h1, h2⟩ := h
  unfold RC at hr ⊢
  obtain ⟨u, us', g1, g2, g3, g4⟩ := hr
  exact ⟨u, us', g1, g2, RD.le h1 g3, RC.le h2 g4⟩
end

mutual
theorem Exp.rv {k : Nat} {κ' : Kap} {F' : Nat → Prop} {ns : List Nat} (h : ORel cx κ F w U σ) (hF : ∀ b, F b → F' b) (hb : ∀ o es l x, σ o = some x → x.sl = some (es, l) → o ∉ ns → k ≤ o → ∀ b, Blk κ o x b → F' b) (hk : ∀ (j o : Nat), ns[j]? = some o → (κ' j).v = (κ o).v) :
  ∀ {x r : AV} {v : Value}, Exp k σ ns x r → RV κ F w x v → RV κ' F' w r v
 | .dat d, r, v, hx, hv => by
  unfold Exp at hx
  obtain ⟨d', rfl, hd⟩ := hx
  unfold RV at hv ⊢
  exact RD.le hd (RD.mono hF (fun _ _ => rfl) hv)
 | .own o, r, v, hx, hv => by
  unfold Exp at hx
  unfold RV at hv
  rcases hx with ⟨es, l, h1, h2, h2', rfl⟩ | ⟨j, hj, rfl⟩
  ·unfold RV
   rw [hv.1]
   obtain ⟨x, hx, hs⟩ := slO_some h1
   exact sl_rd h hF hx hs (hb o es l x hx hs h2 h2')
  ·unfold RV
   rw [hk j o hj]; exact hv
 | .aggv l, r, v, hx, hv => by
  unfold Exp at hx
  unfold RV at hv
  obtain ⟨cs, h1, h2⟩ := hv
  rcases hx with ⟨ds, rfl, hx⟩ | ⟨l', rfl, hx⟩
  ·unfold RV RD
   exact ⟨cs, h1, ExpD.rv h hF hb hk hx h2⟩
  ·unfold RV
   exact ⟨cs, h1, ExpL.rvc h hF hb hk hx h2⟩
 | .tup l, r, v, hx, hv => by
  unfold Exp at hx
  obtain ⟨l', rfl, hx⟩ := hx
  unfold RV at hv ⊢
  obtain ⟨cs, h1, h2⟩ := hv
  exact ⟨cs, h1, ExpL.rvs h hF hb hk hx h2⟩
 | .ref _ _, r, v, hx, hv => by unfold Exp at hx; subst hx; unfold RV; trivial
 | .eref _ _ _ _, r, v, hx, hv => by unfold Exp at hx; subst hx; unfold RV; trivial
 | .row _ _ _ _, r, v, hx, hv => by unfold Exp at hx; subst hx; unfold RV; trivial
 | .rref _ _ _ _ _ _ _, r, v, hx, hv => by unfold Exp at hx; subst hx; unfold RV; trivial
 | .vw _ _ _ _ _ _ _, r, v, hx, hv => by unfold Exp at hx; subst hx; unfold RV; trivial
 | .fp _, r, v, hx, hv => by unfold Exp at hx; subst hx; unfold RV; trivial
 | .fn _ _, r, v, hx, hv => by unfold Exp at hx; subst hx; unfold RV; trivial
 | .und, r, v, hx, hv => by unfold Exp at hx; subst hx; unfold RV; trivial
 | .unk, r, v, hx, hv => by unfold Exp at hx; subst hx; unfold RV; trivial
theorem ExpL.rvs {k : Nat} {κ' : Kap} {F' : Nat → Prop} {ns : List Nat} (h : ORel cx κ F w U σ) (hF : ∀ b, F b → F' b) (hb : ∀ o es l x, σ o = some x → x.sl = some (es, l) → o ∉ ns → k ≤ o → ∀ b, Blk κ o x b → F' b) (hk : ∀ (j o : Nat), ns[j]? = some o → (κ' j).v = (κ o).v) :
  ∀ {l l' : List AV} {us : List Value}, ExpL k σ ns l l' → RVs κ F w l us → RVs κ' F' w l' us
 | [], l', us, hx, hv => by unfold ExpL at hx; subst hx; unfold RVs at hv ⊢; exact hv
 | x :: l, l', us, hx, hv => by
  unfold ExpL at hx
  obtain ⟨y, r, rfl, h1, h2⟩ := hx
  unfold RVs at hv ⊢
  obtain ⟨u, us', g1, g2, g3⟩ := hv
  exact ⟨u, us', g1, Exp.rv h hF hb hk h1 g2, ExpL.rvs h hF hb hk h2 g3⟩
theorem ExpL.rvc {k : Nat} {κ' : Kap} {F' : Nat → Prop} {ns : List Nat} (h : ORel cx κ F w U σ) (hF : ∀ b, F b → F' b) (hb : ∀ o es l x, σ o = some x → x.sl = some (es, l) → o ∉ ns → k ≤ o → ∀ b, Blk κ o x b → F' b) (hk : ∀ (j o : Nat), ns[j]? = some o → (κ' j).v = (κ o).v) :
  ∀ {l l' : List AV} {us : List Value}, ExpL k σ ns l l' → RVc κ F w l us → RVc κ' F' w l' us
 | [], l', us, hx, hv => by unfold ExpL at hx; subst hx; unfold RVc at hv ⊢; exact hv
 | x :: l, l', us, hx, hv => by
  unfold ExpL at hx
  obtain ⟨y, r, rfl, h1, h2⟩ := hx
  unfold RVc at hv ⊢
  obtain ⟨u, us', g1, g1', g2, g3⟩ := hv
  exact ⟨u, us', g1, g1', Exp.rv h hF hb hk h1 g2, ExpL.rvc h hF hb hk h2 g3⟩
theorem ExpD.rv {k : Nat} {κ' : Kap} {F' : Nat → Prop} {ns : List Nat} (h : ORel cx κ F w U σ) (hF : ∀ b, F b → F' b) (hb : ∀ o es l x, σ o = some x → x.sl = some (es, l) → o ∉ ns → k ≤ o → ∀ b, Blk κ o x b → F' b) (hk : ∀ (j o : Nat), ns[j]? = some o → (κ' j).v = (κ o).v) :
  ∀ {l : List AV} {ds : List D} {us : List Value}, ExpD k σ ns l ds → RVc κ F w l us → RC F' w ds us
 | [], ds, us, hx, hv => by unfold ExpD at hx; subst hx; unfold RVc at hv; unfold RC; exact hv
 | x :: l, ds, us, hx, hv => by
  unfold ExpD at hx
  obtain ⟨y, r, rfl, h1, h2⟩ := hx
  unfold RVc at hv
  obtain ⟨u, us', g1, g1', g2, g3⟩ := hv
  have := Exp.rv h hF hb hk h1 g2
  unfold RV at this
  unfold RC
  exact ⟨u, us', g1, g1', this, ExpD.rv h hF hb hk h2 g3⟩
end

mutual
theorem Exp.nb {k : Nat} {ns : List Nat} : ∀ {x r : AV}, Exp k σ ns x r → NB (· < ns.length) r
 | .dat d, r, hx => by unfold Exp at hx; obtain ⟨d', rfl, _⟩ := hx; unfold NB; trivial
 | .own o, r, hx => by
  unfold Exp at hx
  rcases hx with ⟨es, l, h1, h2, h2', rfl⟩ | ⟨j, hj, rfl⟩
  ·unfold NB; trivial
  ·unfold NB; exact (List.getElem?_eq_some_iff.1 hj).1
 | .aggv l, r, hx => by
  unfold Exp at hx
  rcases hx with ⟨ds, rfl, hx⟩ | ⟨l', rfl, hx⟩
  ·unfold NB; trivial
  ·unfold NB; exact ExpL.nb hx
 | .tup l, r, hx => by
  unfold Exp at hx
  obtain ⟨l', rfl, hx⟩ := hx
  unfold NB; exact ExpL.nb hx
 | .ref _ _, r, hx => by unfold Exp at hx; subst hx; unfold NB; trivial
 | .eref _ _ _ _, r, hx => by unfold Exp at hx; subst hx; unfold NB; trivial
 | .row _ _ _ _, r, hx => by unfold Exp at hx; subst hx; unfold NB; trivial
 | .rref _ _ _ _ _ _ _, r, hx => by unfold Exp at hx; subst hx; unfold NB; trivial
 | .vw _ _ _ _ _ _ _, r, hx => by unfold Exp at hx; subst hx; unfold NB; trivial
 | .fp _, r, hx => by unfold Exp at hx; subst hx; unfold NB; trivial
 | .fn _ _, r, hx => by unfold Exp at hx; subst hx; unfold NB; trivial
 | .und, r, hx => by unfold Exp at hx; subst hx; unfold NB; trivial
 | .unk, r, hx => by unfold Exp at hx; subst hx; unfold NB; trivial
theorem ExpL.nb {k : Nat} {ns : List Nat} : ∀ {l l' : List AV}, ExpL k σ ns l l' → NBs (· < ns.length) l'
 | [], l', hx => by unfold ExpL at hx; subst hx; unfold NBs; trivial
 | x :: l, l', hx => by
  unfold ExpL at hx
  obtain ⟨y, r, rfl, h1, h2⟩ := hx
  unfold NBs
  exact ⟨Exp.nb h1, ExpL.nb h2⟩
end

theorem res_run (hty : ∀ t x, ty t = some x → TyOK P t x) {env : List AV} {a : Act} (hr : RelU cx κ F U env σ a w) {rs : List ResultVar} {fn : Func} (hrs : fn.results.toList = rs) {v : AV} (h : resAV ty rs σ env = some v) :
  ∃ u, (results fn a.tmps).run P w = .ok u w ∧ RV κ F w v u := by
 have one : ∀ (x : ResultVar) (y : AV), resOne ty σ env x = some y → ∃ u, (match x with | .tmp t => pure (a.tmps.getD t undef) | .cell b t => do loadVar t (← asAddr (a.tmps.getD b undef)) : Sem Value).run P w = .ok u w ∧ RV κ F w y u := by
  intro x y hx
  cases x with
  | tmp t =>
   simp only [resOne, Option.some.injEq] at hx
   subst hx
   exact ⟨_, by simp, hr.env.rv t⟩
  | cell b t =>
   simp only [resOne] at hx
   split at hx
   ·rename_i o i T hb hT
    have tok := hty _ _ hT
    have hv := hr.env.rv b
    rw [hb] at hv
    unfold RV at hv
    obtain ⟨bb, hk, hρ⟩ := hv
    split at hx
    ·rename_i l hob
     obtain ⟨b', arr, k1, k2, k3⟩ := hr.orel.ok o _ hob
     rw [hk] at k1; simp at k1; subst k1
     have hlen := k3.length
     split at hx
     ·rename_i hg
      split at hx
      ·rename_i hle
       simp only [Option.some.injEq] at hx
       subst hx
       refine ⟨_, ?_, rv_aggv ((k3.drop i).take T.size)⟩
       simp only [hρ, asAddr, Sem.run_bind, Sem.run_pure, Result.andThen_ok]
       refine run_loadVar_agg tok hg ?_ ?_
       ·rw [List.length_take, List.length_drop]; omega
       ·intro j u hj
        rw [cell_arr k2]
        rw [List.getElem?_take] at hj
        split at hj
        ·rw [List.getElem?_drop] at hj; simpa using hj
        ·cases hj
      ·cases hx
     ·rename_i hg
      obtain ⟨u, h1, h2, h3⟩ := RVc.at i y k3 hx
      refine ⟨u, ?_, h3⟩
      simp only [hρ, asAddr, Sem.run_bind, Sem.run_pure, Result.andThen_ok]
      exact run_loadVar_one tok (by simpa using hg) (by rw [cell_arr k2]; simpa using h1)
    ·cases hx
   ·cases hx
 have all : ∀ (l : List ResultVar) (vs : List AV), resAll ty σ env l = some vs → ∃ us : List Value, (l.mapM fun x => (match x with | .tmp t => pure (a.tmps.getD t undef) | .cell b t => do loadVar t (← asAddr (a.tmps.getD b undef)) : Sem Value)).run P w = .ok us w ∧ RVs κ F w vs us := by
  intro l
  induction l with
  | nil => intro vs h; simp only [resAll, Option.some.injEq] at h; subst h; exact ⟨[], by simp, by unfold RVs; rfl⟩
  | cons x l ih =>
   intro vs h
   simp only [resAll] at h
   split at h
   ·rename_i y r h1 h2
    simp only [Option.some.injEq] at h
    subst h
    obtain ⟨u, g1, g2⟩ := one x y h1
    obtain ⟨us, g3, g4⟩ := ih r h2
    refine ⟨u :: us, ?_, by unfold RVs; exact ⟨u, us, rfl, g2, g4⟩⟩
    simp only [List.mapM_cons, Sem.run_bind, g1, Result.andThen_ok, g3, Sem.run_pure]
   ·cases h
 unfold resAV at h
 have run : ∀ us : List Value, (rs.mapM fun x => (match x with | .tmp t => pure (a.tmps.getD t undef) | .cell b t => do loadVar t (← asAddr (a.tmps.getD b undef)) : Sem Value)).run P w = .ok us w →
   (results fn a.tmps).run P w = .ok (if h : us.toArray.size = 1 then us.toArray[0] else .tuple us.toArray) w := by
  intro us hus
  unfold results
  rw [Array.mapM_eq_mapM_toList, map_eq_pure_bind, hrs]
  simp only [Sem.run_bind, Sem.run_pure]
  have : (rs.mapM fun x => (match x with | .tmp t => pure (a.tmps.getD t undef) | .cell b t => do loadVar t (← asAddr (a.tmps.getD b undef)) : Sem Value)).run P w = .ok us w := hus
  erw [this]
  rfl
 cases hall : resAll ty σ env rs with
 | none => rw [hall] at h; cases h
 | some l =>
  rw [hall] at h
  obtain ⟨us, g1, g2⟩ := all rs l hall
  have hrun := run us g1
  match l, us, h, g2, hrun with
  | [], us, h, g2, hrun =>
   unfold RVs at g2; subst g2
   simp only [Option.some.injEq] at h; subst h
   exact ⟨_, by simpa using hrun, by unfold RV; exact ⟨[], rfl, by unfold RVs; rfl⟩⟩
  | [x], us, h, g2, hrun =>
   unfold RVs at g2
   obtain ⟨u, us', rfl, h1, h2⟩ := g2
   unfold RVs at h2; subst h2
   simp only [Option.some.injEq] at h; subst h
   exact ⟨u, by simpa using hrun, h1⟩
  | x :: y :: l, us, h, g2, hrun =>
   have g2' := g2
   unfold RVs at g2
   obtain ⟨u, us', rfl, h1, h2⟩ := g2
   unfold RVs at h2
   obtain ⟨u2, us2, rfl, h3, h4⟩ := h2
   simp only [Option.some.injEq] at h; subst h
   refine ⟨_, by simpa using hrun, ?_⟩
   unfold RV
   exact ⟨_, rfl, g2'⟩

end
end Go.Ab
