/- My own layer, seventeenth part: the text's order serves for every order. -/
import Derived.Test.YtjahononbnbjnaaAbDraw2
namespace Go.Ab
set_option linter.unusedVariables false
set_option linter.unusedSimpArgs false

def edge1 (ops : Array Oper) (i j : Nat) : Bool :=
 ((ops[i]?).any fun o => o.after.any fun e => Region.binds .any e && e.on == j) || ((ops[j]?).any fun o => o.after.any fun e => Region.binds .any e && e.on == i)

def ancOf (tab : List Nat) : List Edge → Nat
 | [] => 0
 | e :: r => bif Region.binds .any e then Nat.lor (Nat.lor (Nat.shiftLeft 1 e.on) (tab.getD e.on 0)) (ancOf tab r) else ancOf tab r
def ancT : List Oper → List Nat → List Nat
 | [], tab => tab
 | o :: r, tab => ancT r (tab ++ [ancOf tab o.after.toList])
def bitB (m i : Nat) : Bool := Nat.testBit m i
def edgeB (ops : Array Oper) (i j : Nat) : Bool :=
 edge1 ops i j || (bitB ((ancT ops.toList []).getD j 0) i || bitB ((ancT ops.toList []).getD i 0) j)

def tiedB (ty : TypeId → Option TyE) (Γ : Nat → Option FnSpec) (M : Nat → List Nat) (ops : Array Oper) (i : Nat) : Bool :=
 (List.range ops.size).all fun k => k == i || !((ops[k]?).any (mutB ty Γ) && (M k).any fun n => (M i).any fun m => Nat.beq n m) || edgeB ops i k

def freeM (ty : TypeId → Option TyE) (Γ : Nat → Option FnSpec) (M : Nat → List Nat) (ops : Array Oper) (i : Nat) : Bool :=
 !((ops[i]?).any (mutB ty Γ)) || tiedB ty Γ M ops i

def OkM (ty : TypeId → Option TyE) (Γ : Nat → Option FnSpec) (ops : Array Oper) (M : Nat → List Nat) (i : Nat) (o : Oper) (env : List AV) (σ : Objs) : Prop :=
 bif mutB ty Γ o then ∀ n ∈ rdset σ (evalA env) o, n ∈ M i else ∀ k ok, ops[k]? = some ok → mutB ty Γ ok = true → k ≠ i → edgeB ops i k = false → ∀ n ∈ rdset σ (evalA env) o, n ∉ M k

def runD (ty : TypeId → Option TyE) (Γ : Nat → Option FnSpec) (ops : Array Oper) (M : Nat → List Nat) (K : List AV → Objs → Nat → Prop) : List Oper → Nat → Nat → List AV → Objs → Prop
 | [], _, nm, env, σ => K env σ nm
 | o :: r, k, nm, env, σ => OkM ty Γ ops M k o env σ ∧ (gspec ty Γ ops σ env nm o).T fun av δ => runD ty Γ ops M K r (k + 1) (nm + 16) (putA env o.dst av) (app δ σ)

def lexM (ty : TypeId → Option TyE) (Γ : Nat → Option FnSpec) (M : Nat → List Nat) (ops : Array Oper) : Bool := (List.range ops.size).all (freeM ty Γ M ops)

section
variable {P : Program} {cx : Cx} {κ : Kap} {F : Nat → Prop} {w : World} {nm : Nat} {σ : Objs} {ty : TypeId → Option TyE} {Γ : Nat → Option FnSpec} {ops : Array Oper} {M : Nat → List Nat} {base : Nat}

theorem app_at (δ : Delta) : ∀ (σ : Objs) (n : Nat), (∀ p ∈ δ, p.1 ≠ n) → app δ σ n = σ n := by
 induction δ with
 | nil => intro σ n _; rfl
 | cons p δ ih =>
  intro σ n h
  obtain ⟨o, x⟩ := p
  simp only [app]
  rw [ih _ n fun q hq => h q (List.mem_cons_of_mem _ hq), upd_ne (Ne.symm (h (o, x) (List.mem_cons_self ..)))]

theorem app_cong (δ : Delta) : ∀ (σ σ' : Objs) (n : Nat), ((∃ p ∈ δ, p.1 = n) ∨ σ n = σ' n) → app δ σ n = app δ σ' n := by
 induction δ with
 | nil =>
  intro σ σ' n h
  rcases h with ⟨p, hp, _⟩ | h
  ·cases hp
  ·exact h
 | cons p δ ih =>
  intro σ σ' n h
  obtain ⟨o, x⟩ := p
  simp only [app]
  refine ih _ _ n ?_
  by_cases ho : n = o
  ·subst ho; right; rw [upd_same, upd_same]
  ·rcases h with ⟨q, hq, hqn⟩ | h
   ·rcases List.mem_cons.1 hq with rfl | hq
    ·exact absurd hqn.symm ho
    ·exact .inl ⟨q, hq, hqn⟩
   ·right; rw [upd_ne ho, upd_ne ho]; exact h

theorem app_comm (δ ε : Delta) (σ : Objs) (h : ∀ p ∈ δ, ∀ q ∈ ε, p.1 ≠ q.1) : app δ (app ε σ) = app ε (app δ σ) := by
 funext n
 by_cases hd : ∃ p ∈ δ, p.1 = n
 ·obtain ⟨p, hp, rfl⟩ := hd
  rw [app_at ε _ _ fun q hq => (h p hp q hq).symm]
  exact app_cong δ _ _ _ (.inl ⟨p, hp, rfl⟩)
 ·have hd' : ∀ p ∈ δ, p.1 ≠ n := fun p hp e => hd ⟨p, hp, e⟩
  rw [app_at δ _ _ hd']
  by_cases he : ∃ q ∈ ε, q.1 = n
  ·obtain ⟨q, hq, rfl⟩ := he
   exact app_cong ε _ _ _ (.inl ⟨q, hq, rfl⟩)
  ·have he' : ∀ q ∈ ε, q.1 ≠ n := fun q hq e => he ⟨q, hq, e⟩
   rw [app_at ε _ _ he', app_at ε _ _ he', app_at δ _ _ hd']

theorem putA_comm (env : List AV) {x y : Option Tmp} (v u : AV) (h : ∀ d, x = some d → y ≠ some d) : putA (putA env x v) y u = putA (putA env y u) x v := by
 cases x with
 | none => rfl
 | some d =>
  cases y with
  | none => rfl
  | some e =>
   have hne : d ≠ e := fun he => h d rfl (he ▸ rfl)
   simp only [putA]
   exact List.set_comm _ _ hne

def Ul (base : Nat) (listed : Array Bool) (n : Nat) : Prop := n < base ∨ ∃ i, listed.getD i false = true ∧ Rng (base + 16 * i) n

structure NBE (U : Nat → Prop) (env : List AV) (σ : Objs) : Prop where
 env : ∀ t, NB U (env.getD t .und)
 ob : ∀ o x, σ o = some x → U o ∧ NBo U x

theorem NBE.eval {U : Nat → Prop} {env : List AV} (h : NBE U env σ) (x : Operand) : NB U (evalA env x) := by
 cases x with
 | tmp t => exact h.env t
 | const v =>
  simp only [evalA]
  cases v
  case agg cs => simp only [constAV]; split <;> (unfold NB; trivial)
  all_goals (simp only [constAV]; unfold NB; trivial)
 | global g => simp only [evalA]; unfold NB; trivial
 | func f => simp only [evalA]; unfold NB NBs; trivial

theorem tame_g (hl : Live Γ) {U : Nat → Prop} {env : List AV} (h : NBE U env σ) {o : Oper} : TameS U nm (fun n => mutB ty Γ o = true ∧ n ∈ rdset σ (evalA env) o) (gspec ty Γ ops σ env nm o) := by
 have hs := tame_spec hl (nm := nm) (ty := ty) (Γ := Γ) (σ := σ) (fun _ => rfl) (fun x => h.eval x) h.ob (o := o)
 have hk : TameS U nm (fun n => mutB ty Γ o = true ∧ n ∈ rdset σ (evalA env) o) skipS := tame_det fun _ => tame_nil (by unfold NB; trivial)
 unfold gspec
 split
 ·exact hs
 ·split
  ·exact tame_fail
  ·split
   ·exact hk
   ·have both : ∀ want b : Bool, TameS U nm (fun n => mutB ty Γ o = true ∧ n ∈ rdset σ (evalA env) o) (bif want then Spec.split b (spec ty Γ σ (evalA env) nm o) skipS else Spec.split b skipS (spec ty Γ σ (evalA env) nm o)) := by
     intro want b
     cases want
     ·exact tame_split hk hs
     ·exact tame_split hs hk
    exact both _ _
   ·exact tame_fail

theorem NBE.put {U : Nat → Prop} {env : List AV} {W : Nat → Prop} {d : Option Tmp} {av : AV} {δ : Delta} (h : NBE U env σ) (ht : Tame U nm W av δ) : NBE (Un U nm) (putA env d av) (app δ σ) := by
 refine ⟨fun t => ?_, fun o x hx => ?_⟩
 ·have old : NB (Un U nm) (env.getD t .und) := NB.mono (fun _ h => un_sub h) (h.env t)
  cases d with
  | none => exact old
  | some d =>
   simp only [putA]
   rw [List.getD_eq_getElem?_getD]
   by_cases hd : d = t
   ·subst hd
    by_cases hlt : d < env.length
    ·rw [List.getElem?_set_self hlt]; exact ht.nb
    ·rw [List.set_eq_of_length_le (Nat.le_of_not_lt hlt), ← List.getD_eq_getElem?_getD]; exact old
   ·rw [List.getElem?_set_ne hd, ← List.getD_eq_getElem?_getD]; exact old
 ·have key : ∀ (δ : Delta) (σ : Objs), (∀ p ∈ δ, ∀ x, p.2 = some x → Un U nm p.1 ∧ NBo (Un U nm) x) → (∀ o x, σ o = some x → Un U nm o ∧ NBo (Un U nm) x) → ∀ o x, app δ σ o = some x → Un U nm o ∧ NBo (Un U nm) x := by
   intro δ
   induction δ with
   | nil => intro σ _ hs o x hx; exact hs o x hx
   | cons p δ ih =>
    intro σ hd hs o x hx
    obtain ⟨n, y⟩ := p
    refine ih (upd σ n y) (fun q hq => hd q (List.mem_cons_of_mem _ hq)) (fun o' x' hx' => ?_) o x hx
    by_cases ho : o' = n
    ·subst ho; rw [upd_same] at hx'; exact hd (o', y) (List.mem_cons_self ..) x' hx'
    ·rw [upd_ne ho] at hx'; exact hs o' x' hx'
  exact key δ σ ht.ob (fun o x hx => ⟨un_sub (h.ob o x hx).1, NBo.mono (fun _ h => un_sub h) (h.ob o x hx).2⟩) o x hx

def TA (ty : TypeId → Option TyE) (Γ : Nat → Option FnSpec) (ops : Array Oper) (M : Nat → List Nat) (base : Nat) (i : Nat) (env : List AV) (σ : Objs) (K : List AV → Objs → Prop) : Prop :=
 match ops[i]? with
 | none => False
 | some o => OkM ty Γ ops M i o env σ ∧ (gspec ty Γ ops σ env (base + 16 * i) o).T fun av δ => K (putA env o.dst av) (app δ σ)

def anyA (ty : TypeId → Option TyE) (Γ : Nat → Option FnSpec) (ops : Array Oper) (M : Nat → List Nat) (base : Nat) (K : List AV → Objs → Prop) : Nat → Array Bool → List AV → Objs → Prop
 | 0, listed, env, σ => NBE (Ul base listed) env σ → Region.ready .any ops listed = [] ∧ K env σ
 | fuel + 1, listed, env, σ => NBE (Ul base listed) env σ → (Region.ready .any ops listed = [] → K env σ) ∧
   ∀ i ∈ Region.ready .any ops listed, TA ty Γ ops M base i env σ (anyA ty Γ ops M base K fuel (listed.setIfInBounds i true))

theorem ul_set {listed : Array Bool} {i : Nat} (hi : i < listed.size) : Un (Ul base listed) (base + 16 * i) = Ul base (listed.setIfInBounds i true) := by
 funext n
 simp only [Un, Ul, Rng, eq_iff_iff]
 constructor
 ·rintro ((h | ⟨j, hj, h⟩) | h)
  ·exact .inl h
  ·exact .inr ⟨j, getD_set_true hj, h⟩
  ·exact .inr ⟨i, by simp [hi], h⟩
 ·rintro (h | ⟨j, hj, h⟩)
  ·exact .inl (.inl h)
  ·by_cases hij : i = j
   ·subst hij; exact .inr h
   ·rw [getD_set_ne false hij] at hj
    exact .inl (.inr ⟨j, hj, h⟩)

theorem ul_fresh {listed : Array Bool} {i n : Nat} (hi : listed.getD i false = false) (h : Rng (base + 16 * i) n) : ¬ Ul base listed n := by
 rintro (h' | ⟨j, hj, h'⟩)
 ·have := h.1; omega
 ·have hij : i = j := by have := h.1; have := h.2; have := h'.1; have := h'.2; omega
  subst hij
  rw [hi] at hj; cases hj

theorem names_nb : ∀ {U : Nat → Prop} {x : AV}, NB U x → ∀ n ∈ x.names, U n := by
 intro U
 have key : (∀ x : AV, NB U x → ∀ n ∈ x.names, U n) ∧ True := ⟨?_, trivial⟩
 exact fun {x} => key.1 x
 intro x
 exact AV.rec (motive_1 := fun x => NB U x → ∀ n ∈ x.names, U n) (motive_2 := fun l => NBs U l → ∀ n ∈ namesL l, U n)
  (fun d _ n hn => by simp [AV.names] at hn) (fun o h n hn => by unfold NB at h; simp [AV.names] at hn; subst hn; exact h) (fun o i h n hn => by unfold NB at h; simp [AV.names] at hn; subst hn; exact h)
  (fun o es k j h n hn => by unfold NB at h; simp [AV.names] at hn; subst hn; exact h) (fun o g k j h n hn => by unfold NB at h; simp [AV.names] at hn; subst hn; exact h.1) (fun o g k j es i c h n hn => by unfold NB at h; simp [AV.names] at hn; subst hn; exact h.1) (fun o g k j es lo m h n hn => by unfold NB at h; simp [AV.names] at hn; subst hn; exact h.1) (fun l _ n hn => by simp [AV.names] at hn)
  (fun l ih h n hn => by unfold NB at h; unfold AV.names at hn; exact ih h n hn) (fun l ih h n hn => by unfold NB at h; unfold AV.names at hn; exact ih h n hn) (fun f l ih h n hn => by unfold NB at h; unfold AV.names at hn; exact ih h n hn)
  (fun _ n hn => by simp [AV.names] at hn) (fun _ n hn => by simp [AV.names] at hn)
  (fun _ n hn => by simp [namesL] at hn)
  (fun x l ihx ihl h n hn => by
   unfold NBs at h; unfold namesL at hn
   rcases List.mem_append.1 hn with hn | hn
   ·exact ihx h.1 n hn
   ·exact ihl h.2 n hn) x

theorem rdset0_nb {U : Nat → Prop} {env : List AV} (h : NBE U env σ) (o : Oper) : ∀ n ∈ rdset0 (evalA env) o, U n := by
 intro n hn
 unfold rdset0 at hn
 split at hn
 ·exact names_nb (h.eval _) n hn
 ·rename_i a x _
  have ha := names_nb (h.eval a)
  split at hn
  ·rename_i hx
   rw [hx] at ha
   rcases List.mem_cons.1 hn with rfl | hn
   ·exact ha n (by simp [AV.names])
   ·exact names_nb (h.eval x) n hn
  ·exact ha n hn
 ·rename_i parts
  have : ∀ (l : List (Nat × Operand)), n ∈ namesL (l.map fun p => evalA env p.2) → U n := by
   intro l
   induction l with
   | nil => intro hn; simp [namesL] at hn
   | cons x l ih =>
    intro hn
    simp only [List.map_cons] at hn
    unfold namesL at hn
    rcases List.mem_append.1 hn with hn | hn
    ·exact names_nb (h.eval x.2) n hn
    ·exact ih hn
  exact this _ hn
 ·exact names_nb (h.eval _) n hn
 ·exact names_nb (h.eval _) n hn
 ·exact names_nb (h.eval _) n hn
 ·exact names_nb (h.eval _) n hn
 ·exact names_nb (h.eval _) n hn
 ·rename_i args _ _
  have : ∀ (l : List Operand), n ∈ namesL (l.map (evalA env)) → U n := by
   intro l
   induction l with
   | nil => intro hn; simp [namesL] at hn
   | cons x l ih =>
    intro hn
    simp only [List.map_cons] at hn
    unfold namesL at hn
    rcases List.mem_append.1 hn with hn | hn
    ·exact names_nb (h.eval x) n hn
    ·exact ih hn
  rcases List.mem_append.1 hn with hn | hn
  ·exact this _ hn
  ·rename_i callee _ _ _
   cases callee with
   | value c => exact names_nb (h.eval c) n hn
   | _ => cases hn
 ·cases hn

theorem owns_nb {U : Nat → Prop} : ∀ {l : List AV}, NBs U l → ∀ n ∈ ownsL l, U n
 | [], _, n, hn => by cases hn
 | x :: l, h, n, hn => by
  unfold NBs at h
  unfold ownsL at hn
  split at hn
  ·rename_i heq; cases heq
  ·rename_i o l' heq
   cases heq
   rcases List.mem_cons.1 hn with rfl | hn
   ·have := h.1; unfold NB at this; exact this
   ·exact owns_nb h.2 n hn
  ·rename_i y l' _ heq
   cases heq
   exact owns_nb h.2 n hn
theorem rdset_nb {U : Nat → Prop} {env : List AV} (h : NBE U env σ) (o : Oper) : ∀ n ∈ rdset σ (evalA env) o, U n := by
 have key : ∀ (l : List Nat), ∀ n ∈ inn σ l, U n := by
  intro l
  induction l with
  | nil => intro n hn; cases hn
  | cons a l ih =>
   intro n hn
   unfold inn at hn
   rcases List.mem_append.1 hn with hn | hn
   ·split at hn
    ·rename_i cs hσ
     exact owns_nb (h.ob a _ hσ).2 n hn
    ·cases hn
   ·exact ih n hn
 intro n hn
 unfold rdset at hn
 rcases List.mem_append.1 hn with hn | hn
 ·exact rdset0_nb h o n hn
 ·unfold xset at hn
  split at hn
  ·exact key _ n hn
  ·cases hn

theorem edge_of_not {i j : Nat} {oi oj : Oper} (hi : ops[i]? = some oi) (hj : ops[j]? = some oj) (h1 : ∀ e ∈ oj.after, Region.binds .any e = true → e.on ≠ i) (h2 : ∀ e ∈ oi.after, Region.binds .any e = true → e.on ≠ j) : edge1 ops i j = false := by
 have a : (ops[i]?.any fun o => o.after.any fun e => Region.binds .any e && e.on == j) = false := by
  rw [hi]
  simp only [Option.any_some]
  rw [Bool.eq_false_iff]
  intro h
  obtain ⟨e, he, hb⟩ := Array.any_eq_true'.1 h
  simp only [Bool.and_eq_true, beq_iff_eq] at hb
  exact h2 e he hb.1 hb.2
 have b : (ops[j]?.any fun o => o.after.any fun e => Region.binds .any e && e.on == i) = false := by
  rw [hj]
  simp only [Option.any_some]
  rw [Bool.eq_false_iff]
  intro h
  obtain ⟨e, he, hb⟩ := Array.any_eq_true'.1 h
  simp only [Bool.and_eq_true, beq_iff_eq] at hb
  exact h1 e he hb.1 hb.2
 unfold edge1; rw [a, b]; rfl

inductive Bef (ops : Array Oper) : Nat → Nat → Prop where
 | one {j : Nat} {o : Oper} {e : Edge} : ops[j]? = some o → e ∈ o.after → Region.binds .any e = true → Bef ops e.on j
 | far {i j : Nat} {o : Oper} {e : Edge} : ops[j]? = some o → e ∈ o.after → Region.binds .any e = true → Bef ops i e.on → Bef ops i j

theorem ancOf_bef {tab : List Nat} {j : Nat} {o : Oper} (hj : ops[j]? = some o) (ht : ∀ k i, bitB (tab.getD k 0) i = true → Bef ops i k) : ∀ (l : List Edge), (∀ e ∈ l, e ∈ o.after) → ∀ i, bitB (ancOf tab l) i = true → Bef ops i j
 | [], _, i, h => by simp [ancOf, bitB] at h
 | e :: l, hl, i, h => by
  have ih := ancOf_bef hj ht l (fun e he => hl e (List.mem_cons_of_mem _ he)) i
  unfold ancOf at h
  cases hb : Region.binds .any e with
  | false => rw [hb] at h; exact ih h
  | true =>
   rw [hb] at h
   simp only [cond_true] at h
   unfold bitB at h
   change Nat.testBit ((((1 : Nat) <<< e.on) ||| (tab.getD e.on 0)) ||| ancOf tab l) i = true at h
   rw [Nat.testBit_or, Nat.testBit_or, Bool.or_eq_true, Bool.or_eq_true] at h
   rcases h with (h | h) | h
   ·have : e.on = i := by
     rw [Nat.one_shiftLeft, Nat.testBit_two_pow] at h
     exact of_decide_eq_true h
    subst this
    exact .one hj (hl e (List.mem_cons_self ..)) hb
   ·exact .far hj (hl e (List.mem_cons_self ..)) hb (ht _ _ h)
   ·exact ih h

theorem ancT_bef : ∀ (l : List Oper) (tab : List Nat), (∀ k, l[k]? = ops[tab.length + k]?) → (∀ k i, bitB (tab.getD k 0) i = true → Bef ops i k) → ∀ k i, bitB ((ancT l tab).getD k 0) i = true → Bef ops i k
 | [], tab, _, ht, k, i, h => ht k i h
 | o :: l, tab, hl, ht, k, i, h => by
  unfold ancT at h
  refine ancT_bef l _ (fun k => ?_) ?_ k i h
  ·have := hl (k + 1)
   simp only [List.getElem?_cons_succ, List.length_append, List.length_cons, List.length_nil] at this ⊢
   rw [this]; congr 1; omega
  ·intro k i hb
   have h0 : ops[tab.length]? = some o := by simpa using (hl 0).symm
   rw [List.getD_eq_getElem?_getD] at hb
   rcases Nat.lt_trichotomy k tab.length with hk | hk | hk
   ·rw [List.getElem?_append_left hk, ← List.getD_eq_getElem?_getD] at hb
    exact ht k i hb
   ·subst hk
    rw [List.getElem?_append_right (Nat.le_refl _)] at hb
    simp only [Nat.sub_self, List.getElem?_cons_zero, Option.getD_some] at hb
    exact ancOf_bef h0 ht _ (fun e he => Array.mem_toList_iff.1 he) i hb
   ·rw [List.getElem?_eq_none (by simp only [List.length_append, List.length_cons, List.length_nil]; omega)] at hb
    simp [bitB] at hb

def ClosedL (ops : Array Oper) (listed : Array Bool) : Prop := ∀ j o, ops[j]? = some o → listed.getD j false = true → ∀ e ∈ o.after, Region.binds .any e = true → listed.getD e.on false = true

theorem bef_listed {listed : Array Bool} (hc : ClosedL ops listed) {i j : Nat} (h : Bef ops i j) : (∀ o, ops[j]? = some o → ∀ e ∈ o.after, Region.binds .any e = true → listed.getD e.on false = true) → listed.getD i false = true := by
 induction h with
 | one hj he hb => intro h; exact h _ hj _ he hb
 | far hj he hb hr ih =>
  intro h
  refine ih fun o ho e' he' hb' => ?_
  exact hc _ o ho (h _ hj _ he hb) e' he' hb'

theorem closed_none {n : Nat} : ClosedL ops (Array.replicate n false) := by
 intro j o _ h
 rw [Array.getD_eq_getD_getElem?, Array.getElem?_replicate] at h
 split at h <;> simp at h

theorem closed_set {listed : Array Bool} {i : Nat} (hc : ClosedL ops listed) (h : ∀ o, ops[i]? = some o → ∀ e ∈ o.after, Region.binds .any e = true → listed.getD e.on false = true) : ClosedL ops (listed.setIfInBounds i true) := by
 have mono : ∀ k, listed.getD k false = true → (listed.setIfInBounds i true).getD k false = true := by
  intro k hk
  rw [Array.getD_eq_getD_getElem?] at hk ⊢
  rw [Array.getElem?_setIfInBounds]
  split
  ·rename_i hik
   subst hik
   split
   ·rfl
   ·rename_i hs
    rw [Array.getElem?_eq_none (by omega)] at hk
    simp at hk
  ·exact hk
 intro j o hj hl e he hb
 by_cases hij : j = i
 ·subst hij; exact mono _ (h o hj e he hb)
 ·refine mono _ (hc j o hj ?_ e he hb)
  rw [Array.getD_eq_getD_getElem?, Array.getElem?_setIfInBounds_ne (Ne.symm hij), ← Array.getD_eq_getD_getElem?] at hl
  exact hl

theorem edge_apart {listed : Array Bool} {i j : Nat} {oi oj : Oper} (hc : ClosedL ops listed) (hi : ops[i]? = some oi) (hj : ops[j]? = some oj) (ui : listed.getD i false = false) (uj : listed.getD j false = false)
  (h1 : ∀ e ∈ oj.after, Region.binds .any e = true → listed.getD e.on false = true) (h2 : ∀ e ∈ oi.after, Region.binds .any e = true → listed.getD e.on false = true) : edgeB ops i j = false ∧ edgeB ops j i = false := by
 have e1 : edge1 ops i j = false := edge_of_not hi hj (fun e he hb heq => by have := h1 e he hb; rw [heq, ui] at this; cases this) (fun e he hb heq => by have := h2 e he hb; rw [heq, uj] at this; cases this)
 have e2 : edge1 ops j i = false := edge_of_not hj hi (fun e he hb heq => by have := h2 e he hb; rw [heq, uj] at this; cases this) (fun e he hb heq => by have := h1 e he hb; rw [heq, ui] at this; cases this)
 have b1 : bitB ((ancT ops.toList []).getD j 0) i = false := by
  rw [Bool.eq_false_iff]
  intro h
  have := bef_listed hc (ancT_bef (ops := ops) ops.toList [] (by simp) (by intro k i h; simp [bitB] at h) j i h) (fun o ho e he hb => by rw [hj] at ho; cases ho; exact h1 e he hb)
  rw [ui] at this; cases this
 have b2 : bitB ((ancT ops.toList []).getD i 0) j = false := by
  rw [Bool.eq_false_iff]
  intro h
  have := bef_listed hc (ancT_bef (ops := ops) ops.toList [] (by simp) (by intro k i h; simp [bitB] at h) i j h) (fun o ho e he hb => by rw [hi] at ho; cases ho; exact h2 e he hb)
  rw [uj] at this; cases this
 unfold edgeB
 rw [e1, e2, b1, b2]
 exact ⟨rfl, rfl⟩

theorem tied_edge {i j : Nat} {oj : Oper} (hj : ops[j]? = some oj) (hm : mutB ty Γ oj = true) (hM : ((M j).any fun n => (M i).any fun m => Nat.beq n m) = true) (hne : j ≠ i) (he : edgeB ops i j = false) : tiedB ty Γ M ops i = false := by
 rw [Bool.eq_false_iff]
 intro h
 unfold tiedB at h
 have := (List.all_eq_true.1 h) j (List.mem_range.2 (Array.getElem?_eq_some_iff.1 hj).1)
 simp [hj, hm, hM, he, hne] at this

theorem meet_of {l l' : List Nat} {n : Nat} (h : n ∈ l) (h' : n ∈ l') : (l.any fun n => l'.any fun m => Nat.beq n m) = true :=
 List.any_eq_true.2 ⟨n, h, List.any_eq_true.2 ⟨n, h', Nat.beq_refl n⟩⟩

theorem okM_mem {i : Nat} {o : Oper} {env : List AV} (h : OkM ty Γ ops M i o env σ) (hm : mutB ty Γ o = true) {n : Nat} (hn : n ∈ rdset σ (evalA env) o) : n ∈ M i := by
 unfold OkM at h
 rw [hm] at h
 exact h n hn

theorem apart_M0 {σ2 : Objs} {i j : Nat} {oi oj : Oper} {env : List AV} {listed : Array Bool} {nmi : Nat} (hi : ops[i]? = some oi) (hj : ops[j]? = some oj) (hij : i ≠ j) (he : edgeB ops i j = false ∧ edgeB ops j i = false)
  (hfi : freeM ty Γ M ops i = true) (hni : listed.getD i false = false) (hnm : nmi = base + 16 * i) (hN : NBE (Ul base listed) env σ) (hoi : OkM ty Γ ops M i oi env σ) (hoj : OkM ty Γ ops M j oj env σ2) {av : AV} {δ : Delta}
  (ht : Tame (Ul base listed) nmi (fun n => mutB ty Γ oi = true ∧ n ∈ rdset σ (evalA env) oi) av δ) : ∀ p ∈ δ, p.1 ∉ rdset0 (evalA env) oj := by
 intro p hp hm
 rcases ht.key p hp with hr | ⟨hmi, hin⟩
 ·subst hnm
  exact ul_fresh hni hr (rdset0_nb hN oj p.1 hm)
 ·unfold OkM at hoi
  rw [hmi] at hoi
  have hM : p.1 ∈ M i := hoi p.1 hin
  have hm2 : p.1 ∈ rdset σ2 (evalA env) oj := List.mem_append_left _ hm
  have hmj : mutB ty Γ oj = false := by
   rw [Bool.eq_false_iff]
   intro hmj
   unfold freeM at hfi
   rw [hi] at hfi
   simp only [Option.any_some, hmi, Bool.not_true, Bool.false_or] at hfi
   have := tied_edge (Γ := Γ) hj hmj (meet_of (okM_mem hoj hmj hm2) hM) (Ne.symm hij) he.1
   rw [this] at hfi; cases hfi
  unfold OkM at hoj
  rw [hmj] at hoj
  exact hoj i oi hi hmi hij he.2 p.1 hm2 hM
theorem apart_M {i j : Nat} {oi oj : Oper} {env : List AV} {listed : Array Bool} {nmi : Nat} (hi : ops[i]? = some oi) (hj : ops[j]? = some oj) (hij : i ≠ j) (he : edgeB ops i j = false ∧ edgeB ops j i = false)
  (hfi : freeM ty Γ M ops i = true) (hni : listed.getD i false = false) (hnm : nmi = base + 16 * i) (hN : NBE (Ul base listed) env σ) (hoi : OkM ty Γ ops M i oi env σ) (hoj : OkM ty Γ ops M j oj env σ) {av : AV} {δ : Delta}
  (ht : Tame (Ul base listed) nmi (fun n => mutB ty Γ oi = true ∧ n ∈ rdset σ (evalA env) oi) av δ) : ∀ p ∈ δ, p.1 ∉ rdset σ (evalA env) oj := by
 intro p hp hm
 rcases ht.key p hp with hr | ⟨hmi, hin⟩
 ·subst hnm
  exact ul_fresh hni hr (rdset_nb hN oj p.1 hm)
 ·unfold OkM at hoi
  rw [hmi] at hoi
  have hM : p.1 ∈ M i := hoi p.1 hin
  have hmj : mutB ty Γ oj = false := by
   rw [Bool.eq_false_iff]
   intro hmj
   unfold freeM at hfi
   rw [hi] at hfi
   simp only [Option.any_some, hmi, Bool.not_true, Bool.false_or] at hfi
   have := tied_edge (Γ := Γ) hj hmj (meet_of (okM_mem hoj hmj hm) hM) (Ne.symm hij) he.1
   rw [this] at hfi; cases hfi
  unfold OkM at hoj
  rw [hmj] at hoj
  exact hoj i oi hi hmi hij he.2 p.1 hm hM
theorem okM_congr {σ' : Objs} {i : Nat} {o : Oper} {env : List AV} (h : ∀ n ∈ rdset0 (evalA env) o, σ' n = σ n) : OkM ty Γ ops M i o env σ' ↔ OkM ty Γ ops M i o env σ := by
 unfold OkM
 rw [rdset_congr h]

theorem okM_put {i : Nat} {o : Oper} {env : List AV} {dst : Option Tmp} {v : AV} (h : ∀ d, dst = some d → d ∉ o.looksAt ops) (ho : OkM ty Γ ops M i o env σ) : OkM ty Γ ops M i o (putA env dst v) σ := by
 unfold OkM at *
 rw [rdset_put h]; exact ho

end
end Go.Ab
