/- My own layer: tests, joins, loops; a body's end; contracts by a model. -/
import Derived.Test.YtjahononbnbjnaaAbEx3b
namespace Go.Ab
set_option linter.unusedVariables false
set_option linter.unusedSimpArgs false

inductive Lp (A B : Type) where
 | nx (a : A)
 | dn (b : B)
inductive Fl (R V : Type) where
 | ret (r : R)
 | go (a : V)

def iterN {A B : Type} (step : A → Option (Lp A B)) : Nat → A → Option B
 | 0, _ => none
 | n + 1, a => match step a with
  | none => none
  | some (.nx a') => iterN step n a'
  | some (.dn b) => some b
theorem iterN_mono {A B : Type} {step : A → Option (Lp A B)} {b : B} : ∀ {n m : Nat} {a : A}, n ≤ m → iterN step n a = some b → iterN step m a = some b
 | 0, m, a, _, h => by cases h
 | n + 1, 0, a, h, _ => by omega
 | n + 1, m + 1, a, hm, h => by
  unfold iterN at h ⊢
  cases hs : step a with
  | none => rw [hs] at h; cases h
  | some r =>
   rw [hs] at h
   cases r with
   | nx a' => exact iterN_mono (Nat.le_of_succ_le_succ hm) h
   | dn b' => exact h
open Classical in
noncomputable def iter {A B : Type} (step : A → Option (Lp A B)) (a : A) : Option B :=
 if h : ∃ n b, iterN step n a = some b then iterN step h.choose a else none
theorem iter_some {A B : Type} {step : A → Option (Lp A B)} {a : A} {b : B} : iter step a = some b ↔ ∃ n, iterN step n a = some b := by
 unfold iter
 constructor
 ·intro h
  split at h
  ·exact ⟨_, h⟩
  ·cases h
 ·rintro ⟨n, h⟩
  have he : ∃ n b, iterN step n a = some b := ⟨n, b, h⟩
  rw [dif_pos he]
  obtain ⟨b', hb'⟩ := he.choose_spec
  rcases Nat.le_total n he.choose with hl | hl
  ·exact iterN_mono hl h
  ·have := iterN_mono hl hb'
   rw [h] at this; cases this; exact hb'
theorem iter_eq {A B : Type} (step : A → Option (Lp A B)) (a : A) : iter step a = match step a with
  | none => none
  | some (.nx a') => iter step a'
  | some (.dn b) => some b := by
 apply Option.ext
 intro b
 rw [iter_some]
 cases hs : step a with
 | none =>
  constructor
  ·rintro ⟨n, h⟩
   cases n with
   | zero => cases h
   | succ n => unfold iterN at h; rw [hs] at h; cases h
  ·intro h; cases h
 | some r =>
  cases r with
  | nx a' =>
   simp only [iter_some]
   constructor
   ·rintro ⟨n, h⟩
    cases n with
    | zero => cases h
    | succ n => unfold iterN at h; rw [hs] at h; exact ⟨n, h⟩
   ·rintro ⟨n, h⟩
    exact ⟨n + 1, by unfold iterN; rw [hs]; exact h⟩
  | dn b' =>
   simp only []
   constructor
   ·rintro ⟨n, h⟩
    cases n with
    | zero => cases h
    | succ n => unfold iterN at h; rw [hs] at h; exact h
   ·intro h
    exact ⟨1, by unfold iterN; rw [hs]; exact h⟩
theorem iter_nx {A B : Type} {step : A → Option (Lp A B)} {a a' : A} (h : step a = some (.nx a')) : iter step a = iter step a' := by rw [iter_eq, h]
theorem iter_dn {A B : Type} {step : A → Option (Lp A B)} {a : A} {b : B} (h : step a = some (.dn b)) : iter step a = some b := by rw [iter_eq, h]

def chk (p : Prop) [Decidable p] : Option Unit := if p then some () else none
def idx {α : Type} (l : List α) (i : Int) : Option α := if 0 ≤ i then l[i.toNat]? else none

theorem obind {α β : Type} {m : Option α} {f : α → Option β} {y : β} (h : m.bind f = some y) : ∃ x, m = some x ∧ f x = some y := by
 cases m with
 | none => cases h
 | some x => exact ⟨x, rfl, h⟩
theorem ob2 {α β γ : Type} {m : Option α} {k : α → Option β} {f : α → β → Option γ} {y : γ} (h : (m.bind fun x => (k x).bind (f x)) = some y) : ∃ x, m = some x ∧ ∃ z, k x = some z ∧ f x z = some y := by
 obtain ⟨x, h1, h2⟩ := obind h
 obtain ⟨z, h3, h4⟩ := obind h2
 exact ⟨x, h1, z, h3, h4⟩
theorem ob3 {α β γ δ : Type} {m : Option α} {k : α → Option β} {l : α → β → Option γ} {f : α → β → γ → Option δ} {y : δ} (h : (m.bind fun x => (k x).bind fun z => (l x z).bind (f x z)) = some y) : ∃ x, m = some x ∧ ∃ z, k x = some z ∧ ∃ u, l x z = some u ∧ f x z u = some y := by
 obtain ⟨x, h1, h2⟩ := obind h
 obtain ⟨z, h3, h4⟩ := obind h2
 obtain ⟨u, h5, h6⟩ := obind h4
 exact ⟨x, h1, z, h3, u, h5, h6⟩
theorem chk_t {p : Prop} [Decidable p] {u : Unit} (h : chk p = some u) : p := by
 unfold chk at h
 split at h
 ·assumption
 ·cases h
theorem idx_t {α : Type} {l : List α} {i : Int} {x : α} (h : idx l i = some x) : 0 ≤ i ∧ l[i.toNat]? = some x := by
 unfold idx at h
 split at h
 ·exact ⟨‹_›, h⟩
 ·cases h
theorem idx_m {α : Type} {f : α → D} {l : List α} {i : Int} {x : α} (h : idx l i = some x) : 0 ≤ i ∧ (l.map f)[i.toNat]? = some (f x) := by
 obtain ⟨h1, h2⟩ := idx_t h
 exact ⟨h1, by rw [List.getElem?_map, h2]; rfl⟩
theorem idx_m2 {α : Type} {f : α → D} {l : List α} {i : Int} {x : α} (h : idx l i = some x) : (l.map f)[i.toNat]? = some (f x) := (idx_m h).2
theorem idx_b {α : Type} {f : α → D} {l : List α} {i : Int} {x : α} (h : idx l i = some x) : 0 ≤ i ∧ i < ((l.map f).length : Int) := by
 obtain ⟨h1, h2⟩ := idx_t h
 have := (List.getElem?_eq_some_iff.1 h2).1
 rw [List.length_map]
 exact ⟨h1, by omega⟩
theorem idx_set {α : Type} {l : List α} {i : Int} {x y : α} (h : idx l i = some x) : idx (l.set i.toNat y) i = some y := by
 obtain ⟨h1, h2⟩ := idx_t h
 have := (List.getElem?_eq_some_iff.1 h2).1
 unfold idx
 rw [if_pos h1, List.getElem?_set_self this]
theorem len_m {α : Type} (f : α → D) (l : List α) : (((l.map f).length : Nat) : Int) = (l.length : Int) := by rw [List.length_map]
theorem set_m {α : Type} (f : α → D) (l : List α) (i : Nat) (x : α) : (l.map f).set i (f x) = (l.set i x).map f := by rw [List.map_set]
theorem app_m {α : Type} (f : α → D) (l r : List α) : l.map f ++ r.map f = (l ++ r).map f := by rw [List.map_append]
theorem rep_m {α : Type} (f : α → D) (n : Nat) (x : α) : List.replicate n (f x) = (List.replicate n x).map f := by rw [List.map_replicate]
theorem drop_m {α : Type} (f : α → D) (l : List α) (i : Nat) : (l.map f).drop i = (l.drop i).map f := by rw [List.map_drop]
theorem cut_m {α : Type} (f : α → D) (l : List α) (i j : Nat) : ((l.map f).take j).drop i = ((l.take j).drop i).map f := by rw [List.map_drop, List.map_take]
theorem it {β : Type} {b : Bool} {x z : Option β} {y : β} (hb : b = true) (h : (if b = true then x else z) = some y) : x = some y := by rw [if_pos hb] at h; exact h
theorem ie {β : Type} {b : Bool} {x z : Option β} {y : β} (hb : b = false) (h : (if b = true then x else z) = some y) : z = some y := by rw [if_neg (by simp [hb])] at h; exact h

section
variable {P : Program} {cx : Cx} {Q : Exit → St → Prop} {n : Nat} {x : X}

theorem X_cond {c : Operand} {t e : Code} (b : Bool) (hc : evX n x.A c = .dat (.sc (.bool b))) (ht : b = true → Ok P cx t Q (x.st n)) (hf : b = false → Ok P cx e Q (x.st n)) : Ok P cx (.cond c t e) Q (x.st n) :=
 Ok_cond b (by rw [← hc, evX_eq]; rfl) ht hf
theorem X_skip (h : Q .normal (x.st n)) : Ok P cx .skip Q (x.st n) := Ok_skip h

theorem X_join {V : Type} (S : V → X) (v : V) {st : St} {c y : Code} (h1 : Ok P cx c (Then (fun s => Wk cx s ((S v).st n)) Q) st) (h2 : Ok P cx y Q ((S v).st n)) : Ok P cx (.seq c y) Q st := by
 refine Ok_seq (Ok.mono h1 ?_)
 intro e s h
 cases e with
 | normal => exact Ok_weak h h2
 | _ => exact h
theorem X_joinF {R V : Type} (S : V → X) (v : Fl R V) {st : St} {c y : Code} (h1 : Ok P cx c (Then (fun s => ∃ u, v = .go u ∧ Wk cx s ((S u).st n)) Q) st) (h2 : ∀ u, v = .go u → Ok P cx y Q ((S u).st n)) : Ok P cx (.seq c y) Q st := by
 refine Ok_seq (Ok.mono h1 ?_)
 intro e s h
 cases e with
 | normal =>
  obtain ⟨u, hu, hw⟩ := h
  exact Ok_weak hw (h2 u hu)
 | _ => exact h

theorem X_loop {A B : Type} {step : A → Option (Lp A B)} (S : A → X) {a0 : A} {b : B} (hm : iter step a0 = some b) {st : St} (hw : Wk cx st ((S a0).st n)) {c : Code}
  (round : ∀ a r, step a = some r → (∀ b', r = .dn b' → b' = b) → Ok P cx c (Then (fun s => ∃ a', r = .nx a' ∧ Wk cx s ((S a').st n)) Q) ((S a).st n)) : Ok P cx (.loop c) Q st := by
 obtain ⟨k, hk⟩ := iter_some.1 hm
 refine Ok_loop_weak (fun m s => ∃ a, iterN step m a = some b ∧ s = (S a).st n) k ⟨_, hw, a0, hk, rfl⟩ ?_
 rintro m s ⟨a, ha, rfl⟩
 cases m with
 | zero => cases ha
 | succ m =>
  unfold iterN at ha
  cases hs : step a with
  | none => rw [hs] at ha; cases ha
  | some r =>
   rw [hs] at ha
   refine Ok.mono (round a r hs ?_) ?_
   ·rintro b' rfl
    simp only [Option.some.injEq] at ha; exact ha
   ·intro e s h
    cases e with
    | normal =>
     obtain ⟨a', rfl, hw'⟩ := h
     exact ⟨m, _, by omega, hw', a', ha, rfl⟩
    | _ => exact h

def atJ (ns : List Nat) (o : Nat) : Option Nat := go ns 0
 where
 go : List Nat → Nat → Option Nat
  | [], _ => none
  | a :: r, j => bif Nat.beq a o then some j else go r (j + 1)
theorem atJ_go {o : Nat} : ∀ {ns : List Nat} {j i : Nat}, atJ.go o ns j = some i → j ≤ i ∧ ns[i - j]? = some o
 | [], j, i, h => by cases h
 | a :: r, j, i, h => by
  unfold atJ.go at h
  cases hb : Nat.beq a o with
  | true =>
   rw [hb] at h; cases h
   have := Nat.eq_of_beq_eq_true hb
   subst this
   simp
  | false =>
   rw [hb] at h
   obtain ⟨h1, h2⟩ := atJ_go (o := o) (ns := r) h
   refine ⟨by omega, ?_⟩
   have : i - j = (i - (j + 1)) + 1 := by omega
   rw [this]; simpa using h2
theorem atJ_none {o : Nat} : ∀ {ns : List Nat} {j : Nat}, atJ.go o ns j = none → o ∉ ns
 | [], j, h => by simp
 | a :: r, j, h => by
  unfold atJ.go at h
  cases hb : Nat.beq a o with
  | true => rw [hb] at h; cases h
  | false =>
   rw [hb] at h
   have ih := atJ_none (o := o) h
   simp only [List.mem_cons, not_or]
   refine ⟨fun e => ?_, ih⟩
   subst e
   simp at hb

def exV (k : Nat) (σ : Objs) (ns : List Nat) (m : Md) : AV → AV
 | .dat d => match m with
  | .z es => (match d with
   | .sc (.slice none 0 0) => .dat (.sl es [])
   | d => .dat d)
  | _ => .dat d
 | .own o => match atJ ns o with
  | some j => .own j
  | none => match slO σ o with
   | some (es, l) => bif Nat.ble k o then .dat (.sl es l) else .tup []
   | _ => .tup []
 | _ => .tup []
def exC (k : Nat) (σ : Objs) (ns : List Nat) : List Md → List AV → List AV
 | m :: ms, x :: l => exV k σ ns m x :: exC k σ ns ms l
 | [], x :: l => exV k σ ns .k x :: exC k σ ns [] l
 | _, [] => []
def badB : AV → Bool
 | .tup _ => true
 | _ => false
def exS (k : Nat) (σ : Objs) (ns : List Nat) (ms : List Md) : AV → Option AV
 | .aggv l => let c := exC k σ ns ms l
  bif c.any badB then none else some (mkAgg c)
 | .dat d => match ms with
  | [] => some (.dat d)
  | m :: ms' => (match d with
   | .agg l => (match toDs (exC k σ ns (m :: ms') (l.map .dat)) with
    | some ds => some (.dat (.agg ds))
    | none => none)
   | d => let v := exV k σ ns m (.dat d)
    bif badB v then none else some v)
 | x => let v := exV k σ ns (ms.headD .k) x
  bif badB v then none else some v
def exSs (k : Nat) (σ : Objs) (ns : List Nat) : List (List Md) → List AV → Option (List AV)
 | m :: ms, x :: l => match exS k σ ns m x, exSs k σ ns ms l with
  | some y, some r => some (y :: r)
  | _, _ => none
 | [], x :: l => match exS k σ ns [] x, exSs k σ ns [] l with
  | some y, some r => some (y :: r)
  | _, _ => none
 | _, [] => some []
def exT (k : Nat) (σ : Objs) (ns : List Nat) (ms : List (List Md)) : AV → Option AV
 | .tup l => match exSs k σ ns ms l with
  | some l' => some (.tup l')
  | none => none
 | x => exS k σ ns (ms.headD []) x

section
variable {k : Nat} {σ : Objs} {ns : List Nat}
theorem exV_ok {m : Md} : ∀ {x : AV}, badB (exV k σ ns m x) = true ∨ Exp k σ ns x (exV k σ ns m x) := by
 intro x
 unfold exV
 split
 ·split
  ·split
   ·exact .inr (exp_nil rfl)
   ·exact .inr (exp_dat rfl)
  ·exact .inr (exp_dat rfl)
 ·rename_i o
  split
  ·rename_i j h
   right
   unfold Exp
   obtain ⟨h1, h2⟩ := atJ_go (j := 0) h
   exact .inr ⟨j, by simpa using h2, rfl⟩
  ·rename_i h
   split
   ·rename_i es l hσ
    cases hk : Nat.ble k o with
    | true => exact .inr (exp_own hσ (atJ_none h) (Nat.le_of_ble_eq_true hk) rfl)
    | false => exact .inl rfl
   ·exact .inl rfl
 ·exact .inl rfl
theorem exC_ok : ∀ {ms : List Md} {l : List AV}, (exC k σ ns ms l).any badB = false → ExpL k σ ns l (exC k σ ns ms l)
 | m :: ms, x :: l, h => by
  unfold exC at h ⊢
  simp only [List.any_cons, Bool.or_eq_false_iff] at h
  rcases exV_ok (k := k) (σ := σ) (ns := ns) (m := m) (x := x) with h1 | h1
  ·rw [h1] at h; cases h.1
  ·exact expL_cons h1 (exC_ok h.2)
 | [], x :: l, h => by
  unfold exC at h ⊢
  simp only [List.any_cons, Bool.or_eq_false_iff] at h
  rcases exV_ok (k := k) (σ := σ) (ns := ns) (m := .k) (x := x) with h1 | h1
  ·rw [h1] at h; cases h.1
  ·exact expL_cons h1 (exC_ok h.2)
 | [], [], _ => by unfold exC; exact expL_nil
 | m :: ms, [], _ => by unfold exC; exact expL_nil
theorem expD_of : ∀ {l : List AV} {ds : List D}, ExpL k σ ns l (ds.map .dat) → ExpD k σ ns l ds
 | [], ds, h => by
  unfold ExpL at h; unfold ExpD
  cases ds with
  | nil => rfl
  | cons => cases h
 | x :: l, ds, h => by
  unfold ExpL at h; unfold ExpD
  obtain ⟨y, r, h1, h2, h3⟩ := h
  cases ds with
  | nil => cases h1
  | cons d ds =>
   simp only [List.map_cons, List.cons.injEq] at h1
   obtain ⟨rfl, rfl⟩ := h1
   exact ⟨d, ds, rfl, h2, expD_of h3⟩
theorem dles_exp : ∀ {l : List D} {ds : List D}, ExpL k σ ns (l.map .dat) (ds.map .dat) → DLes l ds
 | [], ds, h => by
  simp only [List.map_nil] at h
  unfold ExpL at h; unfold DLes
  cases ds with
  | nil => rfl
  | cons => cases h
 | x :: l, ds, h => by
  simp only [List.map_cons] at h
  unfold ExpL at h; unfold DLes
  obtain ⟨y, r, h1, h2, h3⟩ := h
  cases ds with
  | nil => cases h1
  | cons d ds =>
   simp only [List.map_cons, List.cons.injEq] at h1
   obtain ⟨rfl, rfl⟩ := h1
   unfold Exp at h2
   obtain ⟨d', e1, e2⟩ := h2
   cases e1
   exact ⟨d, ds, rfl, e2, dles_exp h3⟩
theorem any_bad_dat : ∀ {ds : List D}, (ds.map AV.dat).any badB = false := by intro ds; simp [badB]
theorem exS_ok {ms : List Md} {x y : AV} (h : exS k σ ns ms x = some y) : Exp k σ ns x y := by
 unfold exS at h
 split at h
 ·rename_i l
  simp only [] at h
  cases hb : (exC k σ ns ms l).any badB with
  | true => rw [hb] at h; cases h
  | false =>
   rw [hb] at h; cases h
   have := exC_ok hb
   unfold mkAgg
   split
   ·rename_i ds hd
    rw [toDs_map hd] at this
    exact exp_agg (expD_of this)
   ·exact exp_aggv this
 ·rename_i d
  split at h
  ·cases h; exact exp_dat rfl
  ·rename_i m ms'
   split at h
   ·rename_i l
    split at h
    ·rename_i ds hd
     cases h
     have h0 : (exC k σ ns (m :: ms') (l.map .dat)).any badB = false := by rw [toDs_map hd]; exact any_bad_dat
     have := exC_ok h0
     rw [toDs_map hd] at this
     unfold Exp
     exact ⟨_, rfl, by unfold DLe; exact ⟨ds, rfl, dles_exp this⟩⟩
    ·cases h
   ·simp only [] at h
    cases hb : badB (exV k σ ns m (.dat d)) with
    | true => rw [hb] at h; cases h
    | false =>
     rw [hb] at h; cases h
     rcases exV_ok (k := k) (σ := σ) (ns := ns) (m := m) (x := .dat d) with h1 | h1
     ·rw [h1] at hb; cases hb
     ·exact h1
 ·simp only [] at h
  cases hb : badB (exV k σ ns (ms.headD .k) x) with
  | true => rw [hb] at h; cases h
  | false =>
   rw [hb] at h; cases h
   rcases exV_ok (k := k) (σ := σ) (ns := ns) (m := ms.headD .k) (x := x) with h1 | h1
   ·rw [h1] at hb; cases hb
   ·exact h1
theorem exSs_ok : ∀ {ms : List (List Md)} {l l' : List AV}, exSs k σ ns ms l = some l' → ExpL k σ ns l l'
 | m :: ms, x :: l, l', h => by
  unfold exSs at h
  split at h
  ·rename_i y r h1 h2
   cases h
   exact expL_cons (exS_ok h1) (exSs_ok h2)
  ·cases h
 | [], x :: l, l', h => by
  unfold exSs at h
  split at h
  ·rename_i y r h1 h2
   cases h
   exact expL_cons (exS_ok h1) (exSs_ok h2)
  ·cases h
 | [], [], l', h => by unfold exSs at h; cases h; exact expL_nil
 | m :: ms, [], l', h => by unfold exSs at h; cases h; exact expL_nil
theorem exT_ok {ms : List (List Md)} {x y : AV} (h : exT k σ ns ms x = some y) : Exp k σ ns x y := by
 unfold exT at h
 split at h
 ·split at h
  ·rename_i l' h1
   cases h
   exact exp_tup (exSs_ok h1)
  ·cases h
 ·exact exS_ok h
end

def resOneX (ty : TypeId → Option TyE) (σ : Objs) (n : Nat) (A : List (Nat × AV)) : ResultVar → Option AV
 | .tmp t => some (evX n A (.tmp t))
 | .cell a t =>
  match evX n A (.tmp a), ty t with
  | .ref o i, some T =>
   match σ o with
   | some (.box _ l) => bif T.isAgg then (bif Nat.ble (i + T.size) l.length then some (.aggv ((l.drop i).take T.size)) else none) else l[i]?
   | _ => none
  | _, _ => none
def resAllX (ty : TypeId → Option TyE) (σ : Objs) (n : Nat) (A : List (Nat × AV)) : List ResultVar → Option (List AV)
 | [] => some []
 | x :: l => match resOneX ty σ n A x, resAllX ty σ n A l with
  | some v, some r => some (v :: r)
  | _, _ => none
def resX (ty : TypeId → Option TyE) (σ : Objs) (n : Nat) (A : List (Nat × AV)) (rs : List ResultVar) : Option AV :=
 match resAllX ty σ n A rs with
 | some [x] => some x
 | some l => some (.tup l)
 | none => none
theorem resOneX_eq {ty : TypeId → Option TyE} {σ : Objs} {A : List (Nat × AV)} {r : ResultVar} {v : AV} (h : resOneX ty σ n A r = some v) : resOne ty σ (envX n A) r = some v := by
 cases r with
 | tmp t => unfold resOneX at h; unfold resOne; simp only [] at h ⊢; rw [envX_getD]; exact h
 | cell a t =>
  unfold resOneX at h; unfold resOne
  simp only [] at h ⊢
  rw [envX_getD]
  have e2 : evX n A (.tmp a) = bif Nat.blt a n then lkA A a else .und := rfl
  rw [e2] at h
  split at h
  ·rename_i o i T h1 h2
   rw [h1, h2]
   simp only []
   split at h
   ·rename_i l hσ
    rw [hσ]
    simp only []
    cases hA : T.isAgg with
    | true =>
     rw [hA] at h
     simp only [cond_true] at h
     cases hb : Nat.ble (i + T.size) l.length with
     | true => rw [hb] at h; rw [if_pos rfl, if_pos (Nat.le_of_ble_eq_true hb)]; exact h
     | false => rw [hb] at h; cases h
    | false => rw [hA] at h; simpa using h
   ·cases h
  ·cases h
theorem resAllX_eq {ty : TypeId → Option TyE} {σ : Objs} {A : List (Nat × AV)} : ∀ {rs : List ResultVar} {l : List AV}, resAllX ty σ n A rs = some l → resAll ty σ (envX n A) rs = some l
 | [], l, h => by unfold resAllX at h; unfold resAll; exact h
 | r :: rs, l, h => by
  unfold resAllX at h; unfold resAll
  split at h
  ·rename_i v r' h1 h2
   rw [resOneX_eq h1, resAllX_eq h2]; exact h
  ·cases h
theorem resX_eq {ty : TypeId → Option TyE} {σ : Objs} {A : List (Nat × AV)} {rs : List ResultVar} {v : AV} (h : resX ty σ n A rs = some v) : resAV ty rs σ (envX n A) = some v := by
 unfold resX at h; unfold resAV
 split at h
 ·rename_i y h1; rw [resAllX_eq h1]; exact h
 ·rename_i l h0 h1
  rw [resAllX_eq h1]
  cases l with
  | nil => exact h
  | cons a l => cases l with
   | nil => exact absurd rfl (h0 a)
   | cons b l => exact h
 ·cases h

def finX (ty : TypeId → Option TyE) (rs : List ResultVar) (n k : Nat) (ns : List Nat) (ms : List (List Md)) (x : X) : Option (AV × List Obj' × List Obj') :=
 match resX ty (obo x.L) n x.A rs with
 | some v =>
  match exT k (obo x.L) ns ms v, objsOf (obo x.L) ns, objsOf (obo x.L) (List.range k) with
  | some r, some new, some ob => bif nodupB ns && ns.all (fun m => Nat.ble k m) && new.all (nlB new.length) && ob.all (nlB ob.length) then some (r, new, ob) else none
  | _, _, _ => none
 | none => none

theorem X_fin {ty : TypeId → Option TyE} {rs : List ResultVar} {k : Nat} {r0 : AV} {new0 ob0 : List Obj'} (ns : List Nat) (ms : List (List Md)) (h : finX ty rs n k ns ms x = some (r0, new0, ob0)) {e : Exit} (he : (match e with | .normal | .ret => True | _ => False)) :
  Fin ty rs k (fun r new ob => r = r0 ∧ new = new0 ∧ ob = ob0) e (x.st n) := by
 unfold finX at h
 split at h
 ·rename_i v hv
  split at h
  ·rename_i r new ob h1 h2 h3
   cases hb : (nodupB ns && ns.all (fun m => Nat.ble k m) && new.all (nlB new.length) && ob.all (nlB ob.length)) with
   | false => rw [hb] at h; cases h
   | true =>
    rw [hb] at h; cases h
    simp only [Bool.and_eq_true] at hb
    obtain ⟨⟨⟨b1, b2⟩, b3⟩, b4⟩ := hb
    exact ⟨he, v, r0, ns, new0, ob0, resX_eq hv, exT_ok h1, ⟨rfl, rfl, rfl⟩, h2, h3, nodupB_ok b1, fun m hm => Nat.le_of_ble_eq_true (List.all_eq_true.1 b2 m hm), fun y hy => nlB_ok (List.all_eq_true.1 b3 y hy), fun y hy => nlB_ok (List.all_eq_true.1 b4 y hy)⟩
  ·cases h
 ·cases h
end

def modS {α β : Type} (lend : List Pt) (encD : α → List D) (encO : α → List Obj') (m : α → Option β) (res : β → AV) (new : β → List Obj') (ob : α → β → List Obj') : FnSpec :=
 ⟨lend, fun ds obs => ∃ x y, ds = encD x ∧ obs = encO x ∧ m x = some y, fun ds obs r nw ob' => ∃ x y, ds = encD x ∧ obs = encO x ∧ m x = some y ∧ r = res y ∧ nw = new y ∧ ob' = ob x y⟩
section
variable {α β : Type} {lend : List Pt} {encD : α → List D} {encO : α → List Obj'} {m : α → Option β} {res : β → AV} {new : β → List Obj'} {ob : α → β → List Obj'}
theorem modS_live : LiveS (modS lend encD encO m res new ob) := by
 rintro ds obs ⟨x, y, rfl, rfl, h⟩
 exact ⟨_, _, _, x, y, rfl, rfl, h, rfl, rfl, rfl⟩
theorem modS_call (hinj : ∀ x x', encD x = encD x' → encO x = encO x' → x = x') {x : α} {y : β} (h : m x = some y) : CallOK (modS lend encD encO m res new ob) (encD x) (encO x) (res y) (new y) (ob x y) := by
 refine ⟨⟨x, y, rfl, rfl, h⟩, ?_⟩
 rintro r' new' ob' ⟨x', y', h1, h2, h3, rfl, rfl, rfl⟩
 have := hinj x x' h1 h2
 subst this
 rw [h] at h3; cases h3
 exact ⟨rfl, rfl, rfl⟩

theorem Wk_slots {cx : Cx} {env env' : List AV} {σ : Objs} {nx : Nat} (hl : env'.length = env.length) (h : ∀ t, env'.getD t .und = env.getD t .und ∨ env'.getD t .und = .unk) : Wk cx ⟨env, σ, nx⟩ ⟨env', σ, nx⟩ := by
 intro κ F a w ⟨he, ho⟩
 refine ⟨κ, F, fun _ h => h, ⟨by rw [he.size]; exact hl.symm, he.dfr, fun t => ?_, fun t => ?_⟩, ho⟩
 ·rcases h t with h | h
  ·rw [h]; exact he.rv t
  ·rw [h]; unfold RV; trivial
 ·rcases h t with h | h
  ·rw [h]; exact he.nb t
  ·rw [h]; unfold NB; trivial

def hdX : Nat → List AV → List (Nat × AV)
 | _, [] => []
 | i, x :: l => (i, x) :: hdX (i + 1) l
def lentX : Nat → List Obj' → List (Nat × Option Obj')
 | _, [] => []
 | i, x :: l => (i, some (x.regen i)) :: lentX (i + 1) l
theorem hdX_at : ∀ (l : List AV) (i t : Nat), lkA (hdX i l) t = .unk ∨ (i ≤ t ∧ l[t - i]? = some (lkA (hdX i l) t))
 | [], i, t => .inl rfl
 | x :: l, i, t => by
  unfold hdX lkA
  cases hb : Nat.beq t i with
  | true =>
   have := Nat.eq_of_beq_eq_true hb
   subst this
   right; simp
  | false =>
   have hne : t ≠ i := fun e => by subst e; simp at hb
   rcases hdX_at l (i + 1) t with h | ⟨h1, h2⟩
   ·left; simpa using h
   ·right
    refine ⟨by omega, ?_⟩
    have : t - i = (t - (i + 1)) + 1 := by omega
    rw [this]; simpa using h2
theorem lentX_at : ∀ (l : List Obj') (i t : Nat), obo (lentX i l) t = if i ≤ t then (l[t - i]?).map (·.regen t) else none
 | [], i, t => by simp [lentX, obo]
 | x :: l, i, t => by
  unfold lentX obo
  cases hb : Nat.beq t i with
  | true =>
   have := Nat.eq_of_beq_eq_true hb
   subst this; simp
  | false =>
   have hne : t ≠ i := fun e => by subst e; simp at hb
   simp only [cond_false, lentX_at l (i + 1) t]
   by_cases h : i ≤ t
   ·have : t - i = (t - (i + 1)) + 1 := by omega
    rw [if_pos h, if_pos (by omega), this]; simp
   ·rw [if_neg h, if_neg (by omega)]
theorem head_len : ∀ (ls : List Pt) (ds : List D) (k : Nat), (headAV ls ds k).length = ls.length
 | [], ds, k => by unfold headAV; rfl
 | p :: ls, [], k => by unfold headAV; simp [head_len ls [] k]
 | p :: ls, d :: ds, k => by unfold headAV; simp [head_len ls ds (k + p.n)]

theorem fnOK_mod {P : Program} {J : Inv} {ty : TypeId → Option TyE} (hty : ∀ t x, ty t = some x → TyOK P t x) {f : Nat} {fn : Func} {c : Code} (hc : ∀ args w, (callFunc f args).run P w = .ok (.enter f args) w) (hf : P.funcs[f]? = some fn) (hb : fn.body = some c)
  (rs : List ResultVar) (hrs : fn.results.toList = rs) (n : Nat) (hn : fn.ntmps = n) (N : Nat) (hN : (Nat.ble (Pt.ns lend) N && Nat.ble lend.length n) = true) (K : Nat) (hO : ∀ x, (encO x).length ≤ N ∧ K ≤ (encO x).length)
  (h : ∀ x y cx, m x = some y → cx.L = K → cx.J = J → Ok P cx c (Fin ty rs K (fun r nw ob' => r = res y ∧ nw = new y ∧ ob' = ob x y)) ((⟨hdX 0 (headAV lend (encD x) 0), lentX 0 (encO x), N⟩ : X).st n)) : FnOK P J f (modS lend encD encO m res new ob) := by
 simp only [Bool.and_eq_true] at hN
 have h1 := Nat.le_of_ble_eq_true hN.1
 have h2 := Nat.le_of_ble_eq_true hN.2
 refine fnOK_of hty (modS lend encD encO m res new ob) N hc hf hb h1 K rs hrs n hn (by rintro ds obs ⟨x, y, rfl, rfl, _⟩; exact hO x) ?_
 rintro ds obs cx ⟨x, y, rfl, rfl, hm⟩ hL hJ
 have hhl := head_len lend (encD x) 0
 have hobs : lentOb (encO x) = obo (lentX 0 (encO x)) := by
  funext t
  rw [lentX_at]
  simp [lentOb]
 refine Ok_weak (s' := (⟨hdX 0 (headAV lend (encD x) 0), lentX 0 (encO x), N⟩ : X).st n) ?_ (Ok.mono (h x y cx hm hL hJ) ?_)
 ·show Wk cx ⟨_, lentOb (encO x), N⟩ ⟨envX n _, obo (lentX 0 (encO x)), N⟩
  rw [hobs]
  refine Wk_slots ?_ fun t => ?_
  ·simp only [envX, List.length_map, List.length_range, List.length_append, List.length_replicate]
   show n = (headAV lend (encD x) 0).length + (n - (headAV lend (encD x) 0).length)
   omega
  ·rw [envX_getD]
   by_cases ht : t < n
   ·have : Nat.blt t n = true := by simpa [Nat.blt_eq] using ht
    rw [this]
    simp only [cond_true]
    rcases hdX_at (headAV lend (encD x) 0) 0 t with h | ⟨_, h⟩
    ·exact .inr h
    ·left
     simp only [Nat.sub_zero] at h
     have hlt : t < (headAV lend (encD x) 0).length := (List.getElem?_eq_some_iff.1 h).1
     rw [List.getD_eq_getElem?_getD]
     show _ = (((headAV lend (encD x) 0) ++ _)[t]?).getD .und
     rw [List.getElem?_append_left hlt, h]; rfl
   ·have : Nat.blt t n = false := by
     cases hb : Nat.blt t n with
     | true => exact absurd (by simpa [Nat.blt_eq] using hb) ht
     | false => rfl
    rw [this]
    left
    rw [List.getD_eq_getElem?_getD, List.getElem?_eq_none]
    ·rfl
    ·simp only [List.length_append, List.length_replicate]
     show (headAV lend (encD x) 0).length + (n - (headAV lend (encD x) 0).length) ≤ t
     omega
 ·rintro e s ⟨he, v, r, ns, nw, ob', g1, g2, ⟨rfl, rfl, rfl⟩, g4⟩
  exact ⟨he, v, _, ns, _, _, g1, g2, ⟨x, y, rfl, rfl, hm, rfl, rfl, rfl⟩, g4⟩
end
end Go.Ab
