/- My own layer, seventeenth part: the text's order serves for every order. -/
import Derived.Test.YtmpgpfekekobfaaAbDraw2
namespace Go.Ab
set_option linter.unusedVariables false
set_option linter.unusedSimpArgs false

/-- A binding edge between two operations, either way. -/
def edgeB (ops : Array Oper) (i j : Nat) : Bool :=
  ((ops[i]?).any fun o => o.after.any fun e => Region.binds .any e && e.on == j) || ((ops[j]?).any fun o => o.after.any fun e => Region.binds .any e && e.on == i)

/-- Is the operation tied to every one that may turn an object? -/
def tiedB (Γ : Nat → Option FnSpec) (ops : Array Oper) (i : Nat) : Bool :=
  (List.range ops.size).all fun k => k == i || !((ops[k]?).any (mutB Γ)) || edgeB ops i k

/-- Two that may turn an object are tied. -/
def freeM (Γ : Nat → Option FnSpec) (ops : Array Oper) (i : Nat) : Bool :=
  !((ops[i]?).any (mutB Γ)) || tiedB Γ ops i

/-- Where an operation looks: one that may turn objects turns but those of its M; any other looks at none of those that one turns to which it isn't tied. -/
def OkM (Γ : Nat → Option FnSpec) (ops : Array Oper) (M : Nat → List Nat) (i : Nat) (o : Oper) (env : List AV) : Prop :=
  bif mutB Γ o then ∀ n ∈ rdset (evalA env) o, n ∈ M i else ∀ k ok, ops[k]? = some ok → mutB Γ ok = true → k ≠ i → edgeB ops i k = false → ∀ n ∈ rdset (evalA env) o, n ∉ M k

/-- The operations in the text's order, each held against M. -/
def runD (ty : TypeId → Option TyE) (Γ : Nat → Option FnSpec) (ops : Array Oper) (M : Nat → List Nat) (K : List AV → Objs → Nat → Prop) : List Oper → Nat → Nat → List AV → Objs → Prop
  | [], _, nm, env, σ => K env σ nm
  | o :: r, k, nm, env, σ => OkM Γ ops M k o env ∧ (gspec ty Γ ops σ env nm o).T fun av δ => runD ty Γ ops M K r (k + 1) (nm + 16) (putA env o.dst av) (app δ σ)

def lexM (Γ : Nat → Option FnSpec) (ops : Array Oper) : Bool := (List.range ops.size).all (freeM Γ ops)

section
variable {P : Program} {cx : Cx} {κ : Kap} {F : Nat → Prop} {w : World} {nm : Nat} {σ : Objs} {ty : TypeId → Option TyE} {Γ : Nat → Option FnSpec} {ops : Array Oper} {M : Nat → List Nat} {base : Nat}

theorem app_at (δ : Delta) : ∀ (σ : Objs) (n : Nat), (∀ p ∈ δ, p.1 ≠ n) → app δ σ n = σ n := by
  induction δ with
  | nil => intro σ n _; rfl
  | cons p δ ih =>
    intro σ n h
    obtain ⟨o, x⟩ := p
    simp only [app]
    rw [ih _ n fun q hq => h q (List.mem_cons_of_mem _ hq), upd_ne (Ne.symm (h (o, x) (List.mem_cons_self ..)))]

theorem app_cong (δ : Delta) : ∀ (σ σ' : Objs) (n : Nat), ((∃ p ∈ δ, p.1 = n) ∨ σ n = σ' n) → app δ σ n = app δ σ' n := by
  induction δ with
  | nil => intro σ σ' n h; rcases h with ⟨p, hp, _⟩ | h; · cases hp
           · exact h
  | cons p δ ih =>
    intro σ σ' n h
    obtain ⟨o, x⟩ := p
    simp only [app]
    refine ih _ _ n ?_
    by_cases ho : n = o
    · subst ho; right; rw [upd_same, upd_same]
    · rcases h with ⟨q, hq, hqn⟩ | h
      · rcases List.mem_cons.1 hq with rfl | hq
        · exact absurd hqn.symm ho
        · exact .inl ⟨q, hq, hqn⟩
      · right; rw [upd_ne ho, upd_ne ho]; exact h

theorem app_comm (δ ε : Delta) (σ : Objs) (h : ∀ p ∈ δ, ∀ q ∈ ε, p.1 ≠ q.1) : app δ (app ε σ) = app ε (app δ σ) := by
  funext n
  by_cases hd : ∃ p ∈ δ, p.1 = n
  · obtain ⟨p, hp, rfl⟩ := hd
    rw [app_at ε _ _ fun q hq => (h p hp q hq).symm]
    exact app_cong δ _ _ _ (.inl ⟨p, hp, rfl⟩)
  · have hd' : ∀ p ∈ δ, p.1 ≠ n := fun p hp e => hd ⟨p, hp, e⟩
    rw [app_at δ _ _ hd']
    by_cases he : ∃ q ∈ ε, q.1 = n
    · obtain ⟨q, hq, rfl⟩ := he
      exact app_cong ε _ _ _ (.inl ⟨q, hq, rfl⟩)
    · have he' : ∀ q ∈ ε, q.1 ≠ n := fun q hq e => he ⟨q, hq, e⟩
      rw [app_at ε _ _ he', app_at ε _ _ he', app_at δ _ _ hd']

theorem putA_comm (env : List AV) {x y : Option Tmp} (v u : AV) (h : ∀ d, x = some d → y ≠ some d) : putA (putA env x v) y u = putA (putA env y u) x v := by
  cases x with
  | none => rfl
  | some d =>
    cases y with
    | none => rfl
    | some e =>
      have hne : d ≠ e := fun he => h d rfl (he ▸ rfl)
      simp only [putA]
      exact List.set_comm _ _ hne

/-- The names in use when these operations are done. -/
def Ul (base : Nat) (listed : Array Bool) (n : Nat) : Prop := n < base ∨ ∃ i, listed.getD i false = true ∧ Rng (base + 16 * i) n

structure NBE (U : Nat → Prop) (env : List AV) (σ : Objs) : Prop where
  env : ∀ t, NB U (env.getD t .und)
  ob : ∀ o x, σ o = some x → U o ∧ NBo U x

theorem NBE.eval {U : Nat → Prop} {env : List AV} (h : NBE U env σ) (x : Operand) : NB U (evalA env x) := by
  cases x with
  | tmp t => exact h.env t
  | const v =>
    simp only [evalA]
    cases v
    case agg cs => simp only [constAV]; split <;> (unfold NB; trivial)
    all_goals (simp only [constAV]; unfold NB; trivial)
  | global g => simp only [evalA]; unfold NB; trivial
  | func f => simp only [evalA]; unfold NB NBs; trivial

theorem tame_g (hl : Live Γ) {U : Nat → Prop} {env : List AV} (h : NBE U env σ) {o : Oper} : TameS U nm (fun n => mutB Γ o = true ∧ n ∈ rdset (evalA env) o) (gspec ty Γ ops σ env nm o) := by
  have hs := tame_spec hl (nm := nm) (ty := ty) (Γ := Γ) (σ := σ) (fun x => h.eval x) h.ob (o := o)
  have hk : TameS U nm (fun n => mutB Γ o = true ∧ n ∈ rdset (evalA env) o) skipS := tame_det fun _ => tame_nil (by unfold NB; trivial)
  unfold gspec
  split
  · exact hs
  · split
    · exact tame_fail
    · split
      · exact hk
      · have both : ∀ want b : Bool, TameS U nm (fun n => mutB Γ o = true ∧ n ∈ rdset (evalA env) o) (bif want then Spec.split b (spec ty Γ σ (evalA env) nm o) skipS else Spec.split b skipS (spec ty Γ σ (evalA env) nm o)) := by
          intro want b
          cases want
          · exact tame_split hk hs
          · exact tame_split hs hk
        exact both _ _
      · exact tame_fail

theorem NBE.put {U : Nat → Prop} {env : List AV} {W : Nat → Prop} {d : Option Tmp} {av : AV} {δ : Delta} (h : NBE U env σ) (ht : Tame U nm W av δ) : NBE (Un U nm) (putA env d av) (app δ σ) := by
  refine ⟨fun t => ?_, fun o x hx => ?_⟩
  · have old : NB (Un U nm) (env.getD t .und) := NB.mono (fun _ h => un_sub h) (h.env t)
    cases d with
    | none => exact old
    | some d =>
      simp only [putA]
      rw [List.getD_eq_getElem?_getD]
      by_cases hd : d = t
      · subst hd
        by_cases hlt : d < env.length
        · rw [List.getElem?_set_self hlt]; exact ht.nb
        · rw [List.set_eq_of_length_le (Nat.le_of_not_lt hlt), ← List.getD_eq_getElem?_getD]; exact old
      · rw [List.getElem?_set_ne hd, ← List.getD_eq_getElem?_getD]; exact old
  · have key : ∀ (δ : Delta) (σ : Objs), (∀ p ∈ δ, ∀ x, p.2 = some x → Un U nm p.1 ∧ NBo (Un U nm) x) → (∀ o x, σ o = some x → Un U nm o ∧ NBo (Un U nm) x) → ∀ o x, app δ σ o = some x → Un U nm o ∧ NBo (Un U nm) x := by
      intro δ
      induction δ with
      | nil => intro σ _ hs o x hx; exact hs o x hx
      | cons p δ ih =>
        intro σ hd hs o x hx
        obtain ⟨n, y⟩ := p
        refine ih (upd σ n y) (fun q hq => hd q (List.mem_cons_of_mem _ hq)) (fun o' x' hx' => ?_) o x hx
        by_cases ho : o' = n
        · subst ho; rw [upd_same] at hx'; exact hd (o', y) (List.mem_cons_self ..) x' hx'
        · rw [upd_ne ho] at hx'; exact hs o' x' hx'
    exact key δ σ ht.ob (fun o x hx => ⟨un_sub (h.ob o x hx).1, NBo.mono (fun _ h => un_sub h) (h.ob o x hx).2⟩) o x hx

/-- Operation i comes up. -/
def TA (ty : TypeId → Option TyE) (Γ : Nat → Option FnSpec) (ops : Array Oper) (M : Nat → List Nat) (base : Nat) (i : Nat) (env : List AV) (σ : Objs) (K : List AV → Objs → Prop) : Prop :=
  match ops[i]? with
  | none => False
  | some o => OkM Γ ops M i o env ∧ (gspec ty Γ ops σ env (base + 16 * i) o).T fun av δ => K (putA env o.dst av) (app δ σ)

/-- Whatever order is picked from here on. -/
def anyA (ty : TypeId → Option TyE) (Γ : Nat → Option FnSpec) (ops : Array Oper) (M : Nat → List Nat) (base : Nat) (K : List AV → Objs → Prop) : Nat → Array Bool → List AV → Objs → Prop
  | 0, listed, env, σ => NBE (Ul base listed) env σ → Region.ready .any ops listed = [] ∧ K env σ
  | fuel + 1, listed, env, σ => NBE (Ul base listed) env σ → (Region.ready .any ops listed = [] → K env σ) ∧
      ∀ i ∈ Region.ready .any ops listed, TA ty Γ ops M base i env σ (anyA ty Γ ops M base K fuel (listed.setIfInBounds i true))

theorem ul_set {listed : Array Bool} {i : Nat} (hi : i < listed.size) : Un (Ul base listed) (base + 16 * i) = Ul base (listed.setIfInBounds i true) := by
  funext n
  simp only [Un, Ul, Rng, eq_iff_iff]
  constructor
  · rintro ((h | ⟨j, hj, h⟩) | h)
    · exact .inl h
    · exact .inr ⟨j, getD_set_true hj, h⟩
    · exact .inr ⟨i, by simp [hi], h⟩
  · rintro (h | ⟨j, hj, h⟩)
    · exact .inl (.inl h)
    · by_cases hij : i = j
      · subst hij; exact .inr h
      · rw [getD_set_ne false hij] at hj
        exact .inl (.inr ⟨j, hj, h⟩)

theorem ul_fresh {listed : Array Bool} {i n : Nat} (hi : listed.getD i false = false) (h : Rng (base + 16 * i) n) : ¬ Ul base listed n := by
  rintro (h' | ⟨j, hj, h'⟩)
  · have := h.1; omega
  · have hij : i = j := by have := h.1; have := h.2; have := h'.1; have := h'.2; omega
    subst hij
    rw [hi] at hj; cases hj

theorem names_nb : ∀ {U : Nat → Prop} {x : AV}, NB U x → ∀ n ∈ x.names, U n := by
  intro U
  have key : (∀ x : AV, NB U x → ∀ n ∈ x.names, U n) ∧ True := ⟨?_, trivial⟩
  exact fun {x} => key.1 x
  intro x
  exact AV.rec (motive_1 := fun x => NB U x → ∀ n ∈ x.names, U n) (motive_2 := fun l => NBs U l → ∀ n ∈ namesL l, U n)
    (fun d _ n hn => by simp [AV.names] at hn) (fun o h n hn => by unfold NB at h; simp [AV.names] at hn; subst hn; exact h) (fun o i h n hn => by unfold NB at h; simp [AV.names] at hn; subst hn; exact h)
    (fun o es k j h n hn => by unfold NB at h; simp [AV.names] at hn; subst hn; exact h) (fun l _ n hn => by simp [AV.names] at hn)
    (fun l ih h n hn => by unfold NB at h; unfold AV.names at hn; exact ih h n hn) (fun l ih h n hn => by unfold NB at h; unfold AV.names at hn; exact ih h n hn) (fun f l ih h n hn => by unfold NB at h; unfold AV.names at hn; exact ih h n hn)
    (fun _ n hn => by simp [AV.names] at hn) (fun _ n hn => by simp [AV.names] at hn)
    (fun _ n hn => by simp [namesL] at hn)
    (fun x l ihx ihl h n hn => by
      unfold NBs at h; unfold namesL at hn
      rcases List.mem_append.1 hn with hn | hn
      · exact ihx h.1 n hn
      · exact ihl h.2 n hn) x

theorem rdset_nb {U : Nat → Prop} {env : List AV} (h : NBE U env σ) (o : Oper) : ∀ n ∈ rdset (evalA env) o, U n := by
  intro n hn
  unfold rdset at hn
  split at hn
  · exact names_nb (h.eval _) n hn
  · exact names_nb (h.eval _) n hn
  · exact names_nb (h.eval _) n hn
  · rename_i args _ _
    have : ∀ (l : List Operand), n ∈ namesL (l.map (evalA env)) → U n := by
      intro l
      induction l with
      | nil => intro hn; simp [namesL] at hn
      | cons x l ih =>
        intro hn
        simp only [List.map_cons] at hn
        unfold namesL at hn
        rcases List.mem_append.1 hn with hn | hn
        · exact names_nb (h.eval x) n hn
        · exact ih hn
    exact this _ hn
  · cases hn

theorem edge_of_not {i j : Nat} {oi oj : Oper} (hi : ops[i]? = some oi) (hj : ops[j]? = some oj) (h1 : ∀ e ∈ oj.after, Region.binds .any e = true → e.on ≠ i) (h2 : ∀ e ∈ oi.after, Region.binds .any e = true → e.on ≠ j) : edgeB ops i j = false ∧ edgeB ops j i = false := by
  have a : (ops[i]?.any fun o => o.after.any fun e => Region.binds .any e && e.on == j) = false := by
    rw [hi]
    simp only [Option.any_some]
    rw [Bool.eq_false_iff]
    intro h
    obtain ⟨e, he, hb⟩ := Array.any_eq_true'.1 h
    simp only [Bool.and_eq_true, beq_iff_eq] at hb
    exact h2 e he hb.1 hb.2
  have b : (ops[j]?.any fun o => o.after.any fun e => Region.binds .any e && e.on == i) = false := by
    rw [hj]
    simp only [Option.any_some]
    rw [Bool.eq_false_iff]
    intro h
    obtain ⟨e, he, hb⟩ := Array.any_eq_true'.1 h
    simp only [Bool.and_eq_true, beq_iff_eq] at hb
    exact h1 e he hb.1 hb.2
  exact ⟨by unfold edgeB; rw [a, b]; rfl, by unfold edgeB; rw [a, b]; rfl⟩

theorem tied_edge {i j : Nat} {oj : Oper} (hj : ops[j]? = some oj) (hm : mutB Γ oj = true) (hne : j ≠ i) (he : edgeB ops i j = false) : tiedB Γ ops i = false := by
  rw [Bool.eq_false_iff]
  intro h
  unfold tiedB at h
  have := (List.all_eq_true.1 h) j (List.mem_range.2 (Array.getElem?_eq_some_iff.1 hj).1)
  simp [hj, hm, he, hne] at this

/-- What i turns, j does not look at (they are not tied). -/
theorem apart_M {i j : Nat} {oi oj : Oper} {env : List AV} {listed : Array Bool} {nmi : Nat} (hi : ops[i]? = some oi) (hj : ops[j]? = some oj) (hij : i ≠ j) (he : edgeB ops i j = false ∧ edgeB ops j i = false)
    (hfi : freeM Γ ops i = true) (hni : listed.getD i false = false) (hnm : nmi = base + 16 * i) (hN : NBE (Ul base listed) env σ) (hoi : OkM Γ ops M i oi env) (hoj : OkM Γ ops M j oj env) {av : AV} {δ : Delta}
    (ht : Tame (Ul base listed) nmi (fun n => mutB Γ oi = true ∧ n ∈ rdset (evalA env) oi) av δ) : ∀ p ∈ δ, p.1 ∉ rdset (evalA env) oj := by
  intro p hp hm
  rcases ht.key p hp with hr | ⟨hmi, hin⟩
  · subst hnm
    exact ul_fresh hni hr (rdset_nb hN oj p.1 hm)
  · unfold OkM at hoi
    rw [hmi] at hoi
    have hM : p.1 ∈ M i := hoi p.1 hin
    have hmj : mutB Γ oj = false := by
      rw [Bool.eq_false_iff]
      intro hmj
      unfold freeM at hfi
      rw [hi] at hfi
      simp only [Option.any_some, hmi, Bool.not_true, Bool.false_or] at hfi
      have := tied_edge (Γ := Γ) hj hmj (Ne.symm hij) he.1
      rw [this] at hfi; cases hfi
    unfold OkM at hoj
    rw [hmj] at hoj
    exact hoj i oi hi hmi hij he.2 p.1 hm hM

theorem okM_put {i : Nat} {o : Oper} {env : List AV} {dst : Option Tmp} {v : AV} (h : ∀ d, dst = some d → d ∉ o.looksAt ops) (ho : OkM Γ ops M i o env) : OkM Γ ops M i o (putA env dst v) := by
  unfold OkM at *
  rw [rdset_put h]; exact ho

end
end Go.Ab
