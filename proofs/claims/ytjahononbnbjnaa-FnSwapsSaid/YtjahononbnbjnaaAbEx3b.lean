/- My own layer: the executor over a region's operations; objects may be frozen in between. -/
import Derived.Test.YtjahononbnbjnaaAbSteal
namespace Go.Ab
set_option linter.unusedVariables false
set_option linter.unusedSimpArgs false

def mdOf : List (Nat × List Md) → Nat → List Md
 | [], _ => []
 | (a, m) :: r, t => bif Nat.beq a t then m else mdOf r t
def liveN (rs : List (Nat × List Md)) : List (Nat × Option Obj') → List Nat → List Nat → List (Nat × Nat × List Md)
 | [], _, _ => []
 | (o, x) :: r, seen, no => bif memB o seen then liveN rs r seen no else match x with
  | some _ => bif memB o no then liveN rs r (o :: seen) no else (o, o, mdOf rs o) :: liveN rs r (o :: seen) no
  | none => liveN rs r (o :: seen) no
def fzP (os : List Nat) (ms rs : List (Nat × List Md)) (x : X) : WP := ⟨x.A.map fun q => (q.1, mdOf ms q.1), liveN rs x.L [] os, [], x.nx⟩

def preF (fk : Option Nat) (n i : Nat) (hs : List (Nat × H)) (x : X) : Option (List Prop × X × List (Nat × H)) :=
 match hs with
 | (j, .fz os ms rs) :: r => bif Nat.beq j i then
   match fk with
   | some k => bif wkOK2 n k (fzP os ms rs x) x then some ([], wkX n k (fzP os ms rs x) x, r) else none
   | none => none
  else some ([], x, hs)
 | (j, .st lc dx) :: r => bif Nat.beq j i then
   match fk with
   | some _ => match stealX n lc dx x with
    | some (ps, x') => some (ps, x', r)
    | none => none
   | none => none
  else some ([], x, hs)
 | _ => some ([], x, hs)

def exR (fk : Option Nat) (chk : Nat → Oper → X → Bool) (ty : TypeId → Option TyE) (Γ : Nat → Option FnSpec) (ops : List Oper) (n : Nat) : List Oper → Nat → List (Nat × H) → X → Option (List Prop × X)
 | [], _, hs, x => bif isNilB hs then some ([], x) else none
 | o :: r, i, hs0, x0 =>
  match preF fk n i hs0 x0 with
  | none => none
  | some (p0, x, hs) =>
  bif chk i o x then
   match guardX ops n x.A o.guard with
   | none => none
   | some false => match exR fk chk ty Γ ops n r (i + 1) (popH i hs).2 ⟨putX x.A o.dst .und, x.L, x.nx + 16⟩ with
    | none => none
    | some (qs, x') => some (p0 ++ qs, x')
   | some true =>
    match stepX ty Γ (obo x.L) (evX n x.A) x.nx o (popH i hs).1 with
    | none => none
    | some (ps, av, δ) =>
     match exR fk chk ty Γ ops n r (i + 1) (popH i hs).2 ⟨putX x.A o.dst av, appX δ x.L, x.nx + 16⟩ with
     | none => none
     | some (qs, x') => some (p0 ++ (ps ++ qs), x')
  else none

section
variable {P : Program} {cx : Cx} {ty : TypeId → Option TyE} {Γ : Nat → Option FnSpec}

theorem preF_none {n i : Nat} {hs hs' : List (Nat × H)} {p0 : List Prop} {x x' : X} (h : preF none n i hs x = some (p0, x', hs')) : x' = x ∧ p0 = [] := by
 unfold preF at h
 split at h
 ·rename_i j os ms rs r
  cases hb : Nat.beq j i with
  | true => rw [hb] at h; cases h
  | false => rw [hb] at h; cases h; exact ⟨rfl, rfl⟩
 ·rename_i j lc dx r
  cases hb : Nat.beq j i with
  | true => rw [hb] at h; cases h
  | false => rw [hb] at h; cases h; exact ⟨rfl, rfl⟩
 ·cases h; exact ⟨rfl, rfl⟩
theorem preF_wk {k n i : Nat} (hk : cx.L = k) {hs hs' : List (Nat × H)} {p0 : List Prop} {x x' : X} (h : preF (some k) n i hs x = some (p0, x', hs')) (hp : AllP p0) : Wk cx (x.st n) (x'.st n) := by
 unfold preF at h
 split at h
 ·rename_i j os ms rs r
  cases hb : Nat.beq j i with
  | true =>
   rw [hb] at h
   simp only [cond_true] at h
   cases ho : wkOK2 n k (fzP os ms rs x) x with
   | true =>
    rw [ho] at h; cases h
    exact Wk_X hk _ ho
   | false => rw [ho] at h; cases h
  | false => rw [hb] at h; cases h; exact Wk.refl _
 ·rename_i j lc dx r
  cases hb : Nat.beq j i with
  | true =>
   rw [hb] at h
   simp only [cond_true] at h
   split at h
   ·rename_i ps x2 hst
    cases h
    exact Wk_St lc dx hst hp
   ·cases h
  | false => rw [hb] at h; cases h; exact Wk.refl _
 ·cases h; exact Wk.refl _

theorem exW_sound (hty : ∀ t x, ty t = some x → TyOK P t x) (hΓ : ∀ f S, Γ f = some S → FnOK P cx.J f S) {k n : Nat} (hk : cx.L = k) {chk : Nat → Oper → X → Bool} {ops : List Oper} {Q : Exit → Act → World → Prop} :
  ∀ (l : List Oper) (i : Nat) (hs : List (Nat × H)) (x x' : X) (ps : List Prop) (κ : Kap) (F : Nat → Prop) (a : Act) (w : World), exR (some k) chk ty Γ ops n l i hs x = some (ps, x') → AllP ps → Rel cx κ F (x.st n) a w →
   (∀ κ' F' a' w', (∀ b, F b → F' b) → Wy cx F w w' → Rel cx κ' F' (x'.st n) a' w' → Q .normal a' w') → wpList P ops.toArray Q l a w
 | [], i, hs, x, x', ps, κ, F, a, w, h, hp, hr, hq => by
  unfold exR at h
  cases hb : isNilB hs with
  | false => rw [hb] at h; cases h
  | true =>
   rw [hb] at h; cases h
   exact wpList_nil (hq κ F a w (fun _ h => h) (Wx.refl _ _) hr)
 | o :: r, i, hs0, x0, x', ps, κ0, F0, a, w, h, hp, hr0, hq => by
  unfold exR at h
  cases hpre : preF (some k) n i hs0 x0 with
  | none => rw [hpre] at h; cases h
  | some xh =>
   obtain ⟨p0, x, hs⟩ := xh
   rw [hpre] at h
   simp only [] at h
   have hp0 : AllP p0 := by
    cases hch : chk i o x with
    | false => rw [hch] at h; cases h
    | true =>
     rw [hch] at h
     simp only [cond_true] at h
     split at h
     ·cases h
     ·split at h
      ·cases h
      ·cases h; exact hp.app.1
     ·split at h
      ·cases h
      ·split at h
       ·cases h
       ·cases h; exact hp.app.1
   obtain ⟨κ, F, hF0, hr⟩ := preF_wk hk hpre hp0 κ0 F0 a w hr0
   have hrU : RelU cx κ F (· < x.nx) (envX n x.A) (obo x.L) a w := ⟨hr.env, hr.orel⟩
   have hun : (Un (· < x.nx) x.nx) = (· < x.nx + 16) := by funext m; simp only [Un, eq_iff_iff]; omega
   cases hch : chk i o x with
   | false => rw [hch] at h; cases h
   | true =>
    rw [hch] at h
    simp only [cond_true] at h
    refine wpList_step fun K hK => ?_
    cases hg : guardX ops n x.A o.guard with
    | none => rw [hg] at h; cases h
    | some b =>
     rw [hg] at h
     cases b with
     | true =>
      simp only [] at h
      split at h
      ·cases h
      ·rename_i ps1 av δ hst
       split at h
       ·cases h
       ·rename_i qs x2 hrec
        cases h
        obtain ⟨_, hp⟩ := hp.app
        obtain ⟨hp1, hp2⟩ := hp.app
        refine step_sound hty hΓ hrU (nm := x.nx) (K := fun av' δ' => av' = av ∧ δ' = δ) (fun j _ => by omega) (gspec_T hg (fun _ => stepX_sound hst hp1 ⟨rfl, rfl⟩) (fun hb => by cases hb)) ?_
        rintro av' δ' v κ' F' w' ⟨rfl, rfl⟩ hF hw hr'
        refine hK _ _ (exW_sound hty hΓ hk r _ _ _ _ _ κ' F' _ _ hrec hp2 ?_ ?_)
        ·rw [putX_eq, appX_eq, hun] at hr'
         exact ⟨hr'.env, hr'.orel⟩
        ·intro κ2 F2 a2 w2 h1 h2 h3
         exact hq κ2 F2 a2 w2 (fun b hb => h1 b (hF b (hF0 b hb))) (Wx.trans (hw.mono fun b hb => hb.imp (hF0 b) id) h2 (fun b hb => hb.imp (fun hb => hF b (hF0 b hb)) id)) h3
     | false =>
      simp only [] at h
      split at h
      ·cases h
      rename_i qs x2 hrec
      cases h
      obtain ⟨_, hp⟩ := hp.app
      refine step_sound hty hΓ hrU (nm := x.nx) (K := fun av' δ' => av' = .und ∧ δ' = []) (fun j _ => by omega) (gspec_T hg (fun hb => by cases hb) (fun _ => ⟨rfl, rfl⟩)) ?_
      rintro av' δ' v κ' F' w' ⟨rfl, rfl⟩ hF hw hr'
      refine hK _ _ (exW_sound hty hΓ hk r _ _ _ _ _ κ' F' _ _ hrec hp ?_ ?_)
      ·rw [putX_eq, hun] at hr'
       exact ⟨hr'.env, hr'.orel⟩
      ·intro κ2 F2 a2 w2 h1 h2 h3
       exact hq κ2 F2 a2 w2 (fun b hb => h1 b (hF b (hF0 b hb))) (Wx.trans (hw.mono fun b hb => hb.imp (hF0 b) id) h2 (fun b hb => hb.imp (fun hb => hF b (hF0 b hb)) id)) h3

theorem exD_sound {M : Nat → List Nat} {chk : Nat → Oper → X → Bool} {ops : List Oper} {n : Nat} {K : List AV → Objs → Nat → Prop} (hchk : ∀ i o (x : X), chk i o x = true → OkM ty Γ ops.toArray M i o (envX n x.A) (obo x.L)) : ∀ (l : List Oper) (i : Nat) (hs : List (Nat × H)) (x x' : X) (ps : List Prop), exR none chk ty Γ ops n l i hs x = some (ps, x') → AllP ps → K (envX n x'.A) (obo x'.L) x'.nx →
  runD ty Γ ops.toArray M K l i x.nx (envX n x.A) (obo x.L)
 | [], i, hs, x, x', ps, h, hp, hK => by
  unfold exR at h
  cases hb : isNilB hs with
  | false => rw [hb] at h; cases h
  | true =>
   rw [hb] at h; cases h
   exact hK
 | o :: r, i, hs0, x0, x', ps, h, hp, hK => by
  unfold exR at h
  cases hpre : preF none n i hs0 x0 with
  | none => rw [hpre] at h; cases h
  | some xh =>
   obtain ⟨p0, x, hs⟩ := xh
   rw [hpre] at h
   obtain ⟨hx, hp0⟩ := preF_none hpre
   subst hx
   subst hp0
   simp only [List.nil_append] at h
   cases hch : chk i o x with
   | false => rw [hch] at h; cases h
   | true =>
    rw [hch] at h
    simp only [cond_true] at h
    refine ⟨hchk _ _ _ hch, ?_⟩
    cases hg : guardX ops n x.A o.guard with
    | none => rw [hg] at h; cases h
    | some b =>
     rw [hg] at h
     refine gspec_T hg (fun hb => ?_) (fun hb => ?_)
     ·subst hb
      simp only [] at h
      split at h
      ·cases h
      ·rename_i ps1 av δ hst
       split at h
       ·cases h
       ·rename_i qs x2 hrec
        cases h
        obtain ⟨hp1, hp2⟩ := hp.app
        refine stepX_sound hst hp1 ?_
        rw [putX_eq, appX_eq]
        exact exD_sound hchk r _ _ _ _ _ hrec hp2 hK
     ·subst hb
      simp only [] at h
      split at h
      ·cases h
      rename_i qs x2 hrec
      cases h
      rw [putX_eq]
      exact exD_sound hchk r _ _ _ _ _ hrec hp hK

def chk0 (_ : Nat) (_ : Oper) (_ : X) : Bool := true
def mAt : List (Nat × List Nat) → Nat → List Nat
 | [], _ => []
 | (a, m) :: r, k => bif Nat.beq a k then m else mAt r k
def chkM (ty : TypeId → Option TyE) (Γ : Nat → Option FnSpec) (ops : List Oper) (n : Nat) (M : List (Nat × List Nat)) (i : Nat) (o : Oper) (x : X) : Bool :=
 match mutB ty Γ o with
 | true => (rdset (obo x.L) (evX n x.A) o).all fun k => memB k (mAt M i)
 | false => (List.range ops.length).all fun k => Nat.beq k i || !((ops[k]?).any (mutB ty Γ)) || ((rdset (obo x.L) (evX n x.A) o).all fun m => !memB m (mAt M k)) || edgeB ops.toArray i k
theorem chkM_ok {ops : List Oper} {n : Nat} {M : List (Nat × List Nat)} {i : Nat} {o : Oper} {x : X} (h : chkM ty Γ ops n M i o x = true) : OkM ty Γ ops.toArray (mAt M) i o (envX n x.A) (obo x.L) := by
 unfold chkM at h
 unfold OkM
 rw [evX_eq] at h
 cases hm : mutB ty Γ o with
 | true =>
  rw [hm] at h
  exact fun k hk => memB_t (List.all_eq_true.1 h k hk)
 | false =>
  rw [hm] at h
  simp only [] at h
  intro k ok hk hmk hne he m hmem hin
  have hk' : ops[k]? = some ok := by simpa using hk
  have hlt : k < ops.length := (List.getElem?_eq_some_iff.1 hk').1
  have := List.all_eq_true.1 h k (List.mem_range.2 hlt)
  simp only [Bool.or_eq_true, hk', Option.any_some, hmk, Bool.not_true, he, or_false, Bool.false_eq_true] at this
  rcases this with h1 | h1
  ·exact hne (Nat.eq_of_beq_eq_true h1)
  ·have := List.all_eq_true.1 h1 m hmem
   simp only [Bool.not_eq_true'] at this
   exact memB_ok this hin

end

def rP (r : Option (List Prop × X)) : Option (List Prop) := r.map (·.1)
def rX (r : Option (List Prop × X)) : X := match r with
 | some (_, x) => x
 | none => ⟨[], [], 0⟩

section
variable {P : Program} {cx : Cx} {ty : TypeId → Option TyE} {Γ : Nat → Option FnSpec} {Q : Exit → St → Prop}

theorem X_reg (hty : ∀ t x, ty t = some x → TyOK P t x) (hΓ : ∀ f S, Γ f = some S → FnOK P cx.J f S) {k : Nat} (hk : cx.L = k) {id n : Nat} {l : List Oper} {x : X} (hs : List (Nat × H)) {ps : List Prop} (hp : AllP ps)
  (h : rP (exR (some k) chk0 ty Γ l n l 0 hs x) = some ps) (hq : Q .normal ((rX (exR (some k) chk0 ty Γ l n l 0 hs x)).st n)) : Ok P cx (.region id l.toArray false) Q (x.st n) := by
 cases he : exR (some k) chk0 ty Γ l n l 0 hs x with
 | none => rw [he] at h; cases h
 | some r =>
  obtain ⟨ps', x'⟩ := r
  rw [he] at h hq
  cases h
  intro κ F a w hr
  refine wp_region_lit (exW_sound hty hΓ hk l 0 hs x x' _ κ F a w he hp hr ?_)
  intro κ' F' a' w' h1 h2 h3
  exact ⟨κ', F', x'.st n, hq, h1, h2, h3⟩
theorem X_reg_seq (hty : ∀ t x, ty t = some x → TyOK P t x) (hΓ : ∀ f S, Γ f = some S → FnOK P cx.J f S) {k : Nat} (hk : cx.L = k) {id n : Nat} {l : List Oper} {x : X} {c : Code} (hs : List (Nat × H)) {ps : List Prop} (hp : AllP ps)
  (h : rP (exR (some k) chk0 ty Γ l n l 0 hs x) = some ps) (hq : Ok P cx c Q ((rX (exR (some k) chk0 ty Γ l n l 0 hs x)).st n)) : Ok P cx (.seq (.region id l.toArray false) c) Q (x.st n) :=
 Ok_seq (X_reg hty hΓ hk hs hp h hq)

theorem X_draw (hm : P.follows .mixedOrders = true) (hty : ∀ t x, ty t = some x → TyOK P t x) (hΓ : ∀ f S, Γ f = some S → FnOK P cx.J f S) (hl : Live Γ) {id n : Nat} {l : List Oper} {x : X} (M : List (Nat × List Nat)) (hB : (Region.lexB .any l.toArray && lexM ty Γ (mAt M) l.toArray) = true) (hs : List (Nat × H)) {ps : List Prop} (hp : AllP ps)
  (h : rP (exR none (chkM ty Γ l n M) ty Γ l n l 0 hs x) = some ps) (hk : Q .normal ((rX (exR none (chkM ty Γ l n M) ty Γ l n l 0 hs x)).st n)) : Ok P cx (.region id l.toArray true) Q (x.st n) := by
 simp only [Bool.and_eq_true] at hB
 cases he : exR none (chkM ty Γ l n M) ty Γ l n l 0 hs x with
 | none => rw [he] at h; cases h
 | some r =>
  obtain ⟨ps', x'⟩ := r
  rw [he] at h hk
  cases h
  refine Ok_draw hm hty hΓ hl (mAt M) hB.1 hB.2 ?_
  exact exD_sound (fun i o A => chkM_ok) l 0 hs x x' _ he hp hk
theorem X_draw_seq (hm : P.follows .mixedOrders = true) (hty : ∀ t x, ty t = some x → TyOK P t x) (hΓ : ∀ f S, Γ f = some S → FnOK P cx.J f S) (hl : Live Γ) {id n : Nat} {l : List Oper} {x : X} {c : Code} (M : List (Nat × List Nat)) (hB : (Region.lexB .any l.toArray && lexM ty Γ (mAt M) l.toArray) = true) (hs : List (Nat × H)) {ps : List Prop} (hp : AllP ps)
  (h : rP (exR none (chkM ty Γ l n M) ty Γ l n l 0 hs x) = some ps) (hk : Ok P cx c Q ((rX (exR none (chkM ty Γ l n M) ty Γ l n l 0 hs x)).st n)) : Ok P cx (.seq (.region id l.toArray true) c) Q (x.st n) :=
 Ok_seq (X_draw hm hty hΓ hl M hB hs hp h hk)

theorem X_nil_seq (hty : ∀ t x, ty t = some x → TyOK P t x) (hΓ : ∀ f S, Γ f = some S → FnOK P cx.J f S) {id n : Nat} {l : List Oper} {x : X} {c : Code} (m : Nat) {ds : List D} (hs : List (Nat × H)) {ps : List Prop} (hp : AllP ps)
  (h : rP (exR none chk0 ty Γ l n (l.take m) 0 hs x) = some ps) {o : Oper} (ho : l.drop m = [o]) (hg : o.guard = none)
  {es : Nat} (hspec : spec ty Γ (obo (rX (exR none chk0 ty Γ l n (l.take m) 0 hs x)).L) (evX n (rX (exR none chk0 ty Γ l n (l.take m) 0 hs x)).A) (rX (exR none chk0 ty Γ l n (l.take m) 0 hs x)).nx o = nilEq false (.dat (.sl es ds)))
  (hk : ∀ b : Bool, (ds ≠ [] → b = false) → Ok P cx c Q ((⟨putX (rX (exR none chk0 ty Γ l n (l.take m) 0 hs x)).A o.dst (.dat (.sc (.bool b))), (rX (exR none chk0 ty Γ l n (l.take m) 0 hs x)).L, (rX (exR none chk0 ty Γ l n (l.take m) 0 hs x)).nx + 16⟩ : X).st n)) : Ok P cx (.seq (.region id l.toArray false) c) Q (x.st n) := by
 refine Ok_seq (Ok_region hty hΓ ?_)
 cases he : exR none chk0 ty Γ l n (l.take m) 0 hs x with
 | none => rw [he] at h; cases h
 | some r =>
  obtain ⟨ps', x'⟩ := r
  rw [he] at h hk hspec
  cases h
  have key : ∀ (l1 : List Oper) (i : Nat) (hs : List (Nat × H)) (x x' : X) (ps : List Prop), exR none chk0 ty Γ l n l1 i hs x = some (ps, x') → AllP ps → ∀ {K : List AV → Objs → Nat → Prop}, runOps ty Γ l.toArray K [o] x'.nx (envX n x'.A) (obo x'.L) → runOps ty Γ l.toArray K (l1 ++ [o]) x.nx (envX n x.A) (obo x.L) := by
   intro l1
   induction l1 with
   | nil =>
    intro i hs x x' ps h hp K hK
    unfold exR at h
    cases hb : isNilB hs with
    | false => rw [hb] at h; cases h
    | true => rw [hb] at h; cases h; exact hK
   | cons p r ih =>
    intro i hs0 x0 x' ps h hp K hK
    unfold exR at h
    cases hpre : preF none n i hs0 x0 with
    | none => rw [hpre] at h; cases h
    | some xh =>
     obtain ⟨p0, x, hs⟩ := xh
     rw [hpre] at h
     obtain ⟨hx, hp0⟩ := preF_none hpre
     subst hx
     subst hp0
     simp only [chk0, cond_true, List.nil_append] at h
     show (gspec ty Γ l.toArray (obo x.L) (envX n x.A) x.nx p).T _
     cases hg : guardX l n x.A p.guard with
     | none => rw [hg] at h; cases h
     | some b =>
      rw [hg] at h
      refine gspec_T hg (fun hb => ?_) (fun hb => ?_)
      ·subst hb
       simp only [] at h
       split at h
       ·cases h
       ·rename_i ps1 av δ hst
        split at h
        ·cases h
        ·rename_i qs x2 hrec
         cases h
         obtain ⟨hp1, hp2⟩ := hp.app
         refine stepX_sound hst hp1 ?_
         rw [putX_eq, appX_eq]
         exact ih _ _ _ _ _ hrec hp2 hK
      ·subst hb
       simp only [] at h
       split at h
       ·cases h
       rename_i qs x2 hrec
       cases h
       rw [putX_eq]
       exact ih _ _ _ _ _ hrec hp hK
  have hl : l = l.take m ++ [o] := by rw [← ho, List.take_append_drop]
  suffices hh : runOps ty Γ l.toArray (fun env σ m => Then (Ok P cx c Q) Q .normal ⟨env, σ, m⟩) (l.take m ++ [o]) x.nx (envX n x.A) (obo x.L) by
   rw [← hl] at hh; exact hh
  refine key _ _ _ _ _ _ he hp ?_
  show (gspec ty Γ l.toArray (obo x'.L) (envX n x'.A) x'.nx o).T _
  refine gspec_T (b := true) (by unfold guardX; rw [hg]) (fun _ => ?_) (fun hb => by cases hb)
  have hspec' : spec ty Γ (obo x'.L) (evX n x'.A) x'.nx o = nilEq false (.dat (.sl es ds)) := hspec
  rw [hspec']
  cases ds with
  | nil =>
   refine ⟨trivial, ?_⟩
   rintro av δ ⟨rfl, b, rfl, hb⟩
   have := hk b hb
   show Then (Ok P cx c Q) Q .normal ⟨putA (envX n x'.A) o.dst _, obo x'.L, x'.nx + 16⟩
   rw [putX_eq, Bool.bne_false]
   exact this
  | cons d r =>
   refine ⟨trivial, ?_⟩
   have := hk false (fun _ => rfl)
   show Then (Ok P cx c Q) Q .normal ⟨putA (envX n x'.A) o.dst _, obo x'.L, x'.nx + 16⟩
   rw [putX_eq]
   exact this
end
end Go.Ab
