/- My own layer, tenth part: calls by contract; regions. -/
import Derived.Test.YtmpgpfekekobfaaAbTab8
namespace Go.Ab
set_option linter.unusedVariables false
set_option linter.unusedSimpArgs false

/-- The arguments of a call, as the callee sees them: what is lent is numbered from k. -/
def RArgs (κ : Kap) (F : Nat → Prop) (w : World) : List (Option Bool) → List D → Nat → List Value → Prop
  | [], ds, _, vs => ds = [] ∧ vs = []
  | none :: ls, ds, k, vs => ∃ d ds' v vs', ds = d :: ds' ∧ vs = v :: vs' ∧ RD F w d v ∧ RArgs κ F w ls ds' k vs'
  | some b :: ls, ds, k, vs => ∃ ds' v vs', ds = .sc undef :: ds' ∧ vs = v :: vs' ∧ (if b then RV κ F w (.own k) v else RV κ F w (.ref k 0) v) ∧ RArgs κ F w ls ds' (k + 1) vs'

/-- Objects numbered from 0, apart from each other, in blocks of 'M'. -/
structure RObjs (κ : Kap) (F : Nat → Prop) (w : World) (M : Nat → Prop) (obs : List Obj') : Prop where
  ok : ∀ j x, obs[j]? = some x → ObjOK κ F w j x ∧ NBo (fun _ => False) x
  blk : ∀ j x, obs[j]? = some x → ∀ b, Blk κ j x b → M b
  apart : ∀ i x j y, obs[i]? = some x → obs[j]? = some y → i ≠ j → ∀ b, Blk κ i x b → ¬ Blk κ j y b

/-- New objects, numbered from 0: a table's rows are told under its own number. -/
structure RNew (κ : Kap) (F : Nat → Prop) (w : World) (M : Nat → Prop) (obs : List Obj') : Prop where
  ok : ∀ j x, obs[j]? = some x → ObjOK κ F w j (x.regen j) ∧ NBt x
  blk : ∀ j x, obs[j]? = some x → ∀ b, Blk κ j (x.regen j) b → M b
  apart : ∀ i x j y, obs[i]? = some x → obs[j]? = some y → i ≠ j → ∀ b, Blk κ i (x.regen i) b → ¬ Blk κ j (y.regen j) b

/-- A block of a lent object. -/
def Lent (κ : Kap) (obs : List Obj') (b : Nat) : Prop := ∃ j x, obs[j]? = some x ∧ Blk κ j x b

/-- What a call leaves. -/
structure Ret (S : FnSpec) (ds : List D) (obs : List Obj') (κ : Kap) (F : Nat → Prop) (w : World) (v : Value) (w' : World) (r : AV) (new obs' : List Obj') (κ' : Kap) (F' : Nat → Prop) : Prop where
  post : S.post ds obs r new obs'
  fr : ∀ b, F b → F' b
  fr' : ∀ b, F' b → F b ∨ w.heap.size ≤ b
  flt : ∀ b, F' b → b < w'.heap.size
  wx : Wx (fun b => b < w.heap.size ∧ ¬ Lent κ obs b) w w'
  rv : RV κ' F' w' r v
  nb : NB (· < new.length) r
  new : RNew κ' F' w' (fun b => w.heap.size ≤ b ∧ ¬ F' b) new
  lent : ∀ j x, obs'[j]? = some x → ObjOK κ F' w' j x ∧ NBo (fun _ => False) x

/-- THE CONTRACT of a function. -/
def FnOK (P : Program) (f : Nat) (S : FnSpec) : Prop :=
  (∀ args w, (callFunc f args).run P w = .ok (.enter f args) w) ∧
  ∀ (vs : List Value) (w : World) (F : Nat → Prop) (ds : List D) (obs : List Obj') (κ : Kap), S.pre ds obs → RArgs κ F w S.lend ds 0 vs → (∀ b, F b → b < w.heap.size) →
    RObjs κ F w (fun b => b < w.heap.size ∧ ¬ F b) obs →
    Calls P f vs.toArray w fun e w' => ∃ v, e = .returned v ∧ ∃ r new obs' κ' F', Ret S ds obs κ F w v w' r new obs' κ' F'

section
variable {P : Program} {cx : Cx} {κ : Kap} {F : Nat → Prop} {w : World} {U : Nat → Prop} {nm : Nat} {σ : Objs} {ty : TypeId → Option TyE} {Γ : Nat → Option FnSpec}

/-- Flat data lead nowhere. -/
theorem RC.flat {F' : Nat → Prop} {w' : World} : ∀ {l : List D} {us : List Value}, (∀ d ∈ l, ∃ v, d = .sc v) → RC F w l us → RC F' w' l us
  | [], us, _, h => by unfold RC at h ⊢; exact h
  | d :: ds, us, hl, h => by
    unfold RC at h ⊢
    obtain ⟨u, us', h1, h2, h3, h4⟩ := h
    obtain ⟨v, rfl⟩ := hl d (List.mem_cons_self ..)
    unfold RD at h3
    exact ⟨u, us', h1, h2, by unfold RD; exact h3, RC.flat (fun d hd => hl d (List.mem_cons_of_mem _ hd)) h4⟩
theorem RD.flat {F' : Nat → Prop} {w' : World} {d : D} {v : Value} (hd : FlatD d) (h : RD F w d v) : RD F' w' d v := by
  cases d with
  | sc u => unfold RD at h ⊢; exact h
  | sl es l => exact hd.elim
  | agg l =>
    unfold RD at h ⊢
    obtain ⟨cs, h1, h2⟩ := h
    exact ⟨cs, h1, RC.flat hd h2⟩
theorem RE.flat {F' : Nat → Prop} {w' : World} {es : Nat} : ∀ {l : List D} {us : List Value}, (∀ d ∈ l, FlatD d) → RE F w es l us → RE F' w' es l us
  | [], us, _, h => by unfold RE at h ⊢; exact h
  | d :: ds, us, hl, h => by
    obtain ⟨u, us', rfl, h2, h3, h4⟩ := h.cons
    refine RE.mk h2 ?_ (RE.flat (fun d hd => hl d (List.mem_cons_of_mem _ hd)) h4)
    have hd := hl d (List.mem_cons_self ..)
    cases d with
    | sc v => exact RC.flat (by simp [D.cells]) h3
    | sl e l => exact hd.elim
    | agg l => exact RC.flat hd h3
theorem RVc.flat {κ' : Kap} {F' : Nat → Prop} {w' : World} : ∀ {l : List AV} {us : List Value}, (∀ x ∈ l, ∃ v, x = .dat (.sc v)) → RVc κ F w l us → RVc κ' F' w' l us
  | [], us, _, h => by unfold RVc at h ⊢; exact h
  | x :: l, us, hl, h => by
    unfold RVc at h ⊢
    obtain ⟨u, us', h1, h2, h3, h4⟩ := h
    obtain ⟨v, rfl⟩ := hl x (List.mem_cons_self ..)
    unfold RV RD at h3
    exact ⟨u, us', h1, h2, by unfold RV RD; exact h3, RVc.flat (fun d hd => hl d (List.mem_cons_of_mem _ hd)) h4⟩
theorem RV.flat {F' : Nat → Prop} {w' : World} {x : AV} {v : Value} (hx : FlatAV x) (h : RV κ F w x v) : RV κ F' w' x v := by
  cases x with
  | dat d => unfold RV at h ⊢; exact RD.flat hx h
  | own o => unfold RV at h ⊢; exact h
  | tup l =>
    unfold RV at h ⊢
    obtain ⟨cs, h1, h2⟩ := h
    refine ⟨cs, h1, ?_⟩
    clear h1
    simp only [FlatAV] at hx
    induction l generalizing cs with
    | nil => unfold RVs at h2 ⊢; exact h2
    | cons y l ih =>
      unfold RVs at h2 ⊢
      obtain ⟨u, us', g1, g2, g3⟩ := h2
      refine ⟨u, us', g1, ?_, ih (fun z hz => hx z (List.mem_cons_of_mem _ hz)) _ g3⟩
      rcases hx y (List.mem_cons_self ..) with ⟨d, rfl, hd⟩ | ⟨o, rfl⟩
      · unfold RV at g2 ⊢; exact RD.flat hd g2
      · unfold RV at g2 ⊢; exact g2
  | _ => exact hx.elim

/-- An object, its names turned. -/
theorem ObjOK.turn {κ' : Kap} {F' : Nat → Prop} {o o' : Nat} {x : Obj'} (hk : κ' o' = κ o) (hn : NBo (fun _ => False) x) (hF : (∀ b, F b → F' b) ∨ FlatObj x) (h : ObjOK κ F w o x) : ObjOK κ' F' w o' x := by
  cases x with
  | box l =>
    obtain ⟨b, arr, elem, h1, h2, h3⟩ := h
    refine ⟨b, arr, elem, by rw [hk]; exact h1, h2, ?_⟩
    rcases hF with hF | hF
    · exact RVc.mono (U := fun _ => False) (by simp) hF (fun _ _ => rfl) hn h3
    · exact RVc.flat hF h3
  | arr e es l =>
    obtain ⟨us, h1, h2, h3⟩ := h
    refine ⟨us, by rw [hk]; exact h1, ?_, h3⟩
    rcases hF with hF | hF
    · exact RE.mono hF (fun _ _ => rfl) h2
    · exact RE.flat hF h2
  | tab e es mask l g hole => exact (show False from hn).elim
theorem ObjOK.turnR {κ' : Kap} {F' : Nat → Prop} {j n : Nat} {x : Obj'} (hk : κ' n = κ j) (hn : NBt x) (hF : (∀ b, F b → F' b) ∨ FlatObj x) (h : ObjOK κ F w j (x.regen j)) : ObjOK κ' F' w n (x.regen n) := by
  cases x with
  | box l => exact ObjOK.turn hk hn hF h
  | arr e es l => exact ObjOK.turn hk trivial hF h
  | tab e es mask l g hole =>
    have ht : TabOK F w e es mask l (κ j).v (κ j).r hole := h
    show TabOK F' w e es mask l (κ' n).v (κ' n).r hole
    rw [hk]
    rcases hF with hF | hF
    · exact ht.mono hF (fun _ _ => rfl) (fun _ _ => rfl) (fun _ _ _ _ _ => rfl)
    · exact hF.elim
theorem Blk.turnR {κ' : Kap} {j n b : Nat} {x : Obj'} (hk : κ' n = κ j) (h : Blk κ' n (x.regen n) b) : Blk κ j (x.regen j) b := by
  cases x with
  | tab e es mask l g hole =>
    rcases h with h | ⟨k, i, h1, h2⟩
    · exact .inl (by rw [← hk]; exact h)
    · exact .inr ⟨k, i, h1, by rw [← hk]; exact h2⟩
  | _ =>
    rcases h with h | h
    · exact .inl (by rw [← hk]; exact h)
    · exact h.elim
theorem NBt.nbo {x : Obj'} {n : Nat} (hU : U n) (h : NBt x) : NBo U (x.regen n) := by
  cases x with
  | box l => exact NBs.mono (fun _ hf => False.elim hf) h
  | arr e es l => trivial
  | tab e es mask l g hole => exact hU
theorem regen_plain {x : Obj'} {n : Nat} (h : NBo (fun _ => False) (x.regen n)) : x.regen n = x := by
  cases x with
  | tab e es mask l g hole => exact (show False from h).elim
  | _ => rfl
theorem Blk.turn {κ' : Kap} {o o' b : Nat} {x : Obj'} (hn : NBo (fun _ => False) x) (hk : κ' o' = κ o) (h : Blk κ' o' x b) : Blk κ o x b := by
  cases x with
  | tab e es mask l g hole => exact (show False from hn).elim
  | _ =>
    rcases h with h | h
    · exact .inl (by rw [← hk]; exact h)
    · exact h.elim

theorem Blk.base {o b : Nat} {x x' : Obj'} (hn : NBo (fun _ => False) x) (h : Blk κ o x b) : Blk κ o x' b := by
  cases x with
  | tab e es mask l g hole => exact (show False from hn).elim
  | _ =>
    rcases h with h | h
    · exact .inl h
    · exact h.elim

theorem rdD_go (h : ORel cx κ F w U σ) {F' : Nat → Prop} (hF : ∀ b, F b → F' b) : ∀ {l : List AV} {ds : List D} {rd : List Nat} {us : List Value}, rdD.go σ l = some (ds, rd) → (∀ o ∈ rd, ∀ x, σ o = some x → ∀ b, Blk κ o x b → F' b) → RVc κ F w l us → RC F' w ds us
  | [], ds, rd, us, hl, _, hr => by
    simp only [rdD.go, Option.some.injEq, Prod.mk.injEq] at hl
    obtain ⟨rfl, rfl⟩ := hl
    unfold RVc at hr; unfold RC; exact hr
  | x :: l, ds, rd, us, hl, hrd, hr => by
    unfold RVc at hr
    obtain ⟨u, us', rfl, h2, h3, h4⟩ := hr
    unfold rdD.go at hl
    split at hl
    · rename_i heq; cases heq
    · rename_i d l' heq
      simp only [List.cons.injEq] at heq
      obtain ⟨rfl, rfl⟩ := heq
      split at hl
      · rename_i ds' rd' hg
        simp only [Option.some.injEq, Prod.mk.injEq] at hl
        obtain ⟨rfl, rfl⟩ := hl
        unfold RC
        unfold RV at h3
        exact ⟨u, us', rfl, h2, RD.mono hF (fun _ _ => rfl) h3, rdD_go h hF hg hrd h4⟩
      · cases hl
    · rename_i o l' heq
      simp only [List.cons.injEq] at heq
      obtain ⟨rfl, rfl⟩ := heq
      split at hl
      · rename_i es xs ds' rd' ho hg
        simp only [Option.some.injEq, Prod.mk.injEq] at hl
        obtain ⟨rfl, rfl⟩ := hl
        unfold RC
        refine ⟨u, us', rfl, h2, ?_, rdD_go h hF hg (fun o ho => hrd o (List.mem_cons_of_mem _ ho)) h4⟩
        unfold RV at h3
        obtain ⟨y, hy, hsl⟩ := slO_some ho
        rw [h3.1]
        exact sl_rd h hF hy hsl fun b hb => hrd o (List.mem_cons_self ..) y hy b hb
      · cases hl
    · cases hl

/-- A value read as a datum. -/
theorem rdD_some (h : ORel cx κ F w U σ) {F' : Nat → Prop} (hF : ∀ b, F b → F' b) {x : AV} {d : D} {rd : List Nat} {v : Value} (hx : rdD σ x = some (d, rd)) (hrd : ∀ o ∈ rd, ∀ x, σ o = some x → ∀ b, Blk κ o x b → F' b) (hv : RV κ F w x v) : RD F' w d v := by
  unfold rdD at hx
  split at hx
  · simp only [Option.some.injEq, Prod.mk.injEq] at hx
    obtain ⟨rfl, rfl⟩ := hx
    unfold RV at hv
    exact RD.mono hF (fun _ _ => rfl) hv
  · rename_i o
    split at hx
    · rename_i es xs ho
      simp only [Option.some.injEq, Prod.mk.injEq] at hx
      obtain ⟨rfl, rfl⟩ := hx
      unfold RV at hv
      obtain ⟨y, hy, hsl⟩ := slO_some ho
      rw [hv.1]
      exact sl_rd h hF hy hsl fun b hb => hrd o (List.mem_cons_self ..) y hy b hb
    · cases hx
  · split at hx
    · rename_i ds rd' hg
      simp only [Option.some.injEq, Prod.mk.injEq] at hx
      obtain ⟨rfl, rfl⟩ := hx
      unfold RV at hv
      obtain ⟨cs, h1, h2⟩ := hv
      unfold RD
      exact ⟨cs, h1, rdD_go h hF hg hrd h2⟩
    · cases hx
  · cases hx

theorem args_some (h : ORel cx κ F w U σ) {F' : Nat → Prop} (hF : ∀ b, F b → F' b) {ρ : Operand → Value} {e : Operand → AV} (he : ∀ x, RV κ F w (e x) (ρ x)) {κc : Kap} :
    ∀ (ls : List (Option Bool)) (xs : List Operand) (ds : List D) (ns rd : List Nat) (k : Nat), argsOf σ ls (xs.map e) = some (ds, ns, rd) → (∀ o ∈ rd, ∀ x, σ o = some x → ∀ b, Blk κ o x b → F' b) →
      (∀ (j n : Nat), ns[j]? = some n → κc (k + j) = κ n) → RArgs κc F' w ls ds k (xs.map ρ)
  | [], [], ds, ns, rd, k, hx, hrd, hk => by
    simp [argsOf] at hx
    unfold RArgs
    exact ⟨hx.1, rfl⟩
  | [], x :: xs, ds, ns, rd, k, hx, _, _ => by simp [argsOf] at hx
  | none :: ls, [], ds, ns, rd, k, hx, _, _ => by simp [argsOf] at hx
  | some b :: ls, [], ds, ns, rd, k, hx, _, _ => by cases b <;> simp [argsOf] at hx
  | none :: ls, x :: xs, ds, ns, rd, k, hx, hrd, hk => by
    simp only [List.map_cons] at hx
    unfold argsOf at hx
    split at hx
    · rename_i d rd1 ds' ns' rd2 h1 h2
      simp only [Option.some.injEq, Prod.mk.injEq] at hx
      obtain ⟨rfl, rfl, rfl⟩ := hx
      unfold RArgs
      exact ⟨d, ds', ρ x, xs.map ρ, rfl, rfl, rdD_some h hF h1 (fun o ho => hrd o (List.mem_append_left _ ho)) (he x), args_some h hF he ls xs ds' ns' rd2 k h2 (fun o ho => hrd o (List.mem_append_right _ ho)) hk⟩
    · cases hx
  | some false :: ls, x :: xs, ds, ns, rd, k, hx, hrd, hk => by
    simp only [List.map_cons] at hx
    have hv := he x
    generalize e x = y at hx hv
    cases y with
    | ref o i =>
      cases i with
      | zero =>
        simp only [argsOf] at hx
        split at hx
        · rename_i ds' ns' rd' h1
          simp only [Option.some.injEq, Prod.mk.injEq] at hx
          obtain ⟨rfl, rfl, rfl⟩ := hx
          unfold RArgs
          refine ⟨ds', ρ x, xs.map ρ, rfl, rfl, ?_, args_some h hF he ls xs ds' ns' rd' (k + 1) h1 hrd (fun j n hj => by have := hk (j + 1) n (by simpa using hj); rwa [show k + (j + 1) = k + 1 + j from by omega] at this)⟩
          simp only [Bool.false_eq_true, if_false]
          unfold RV at hv ⊢
          have := hk 0 o (by simp)
          rw [Nat.add_zero] at this
          rw [this]; exact hv
        · cases hx
      | succ i => simp [argsOf] at hx
    | _ => simp [argsOf] at hx
  | some true :: ls, x :: xs, ds, ns, rd, k, hx, hrd, hk => by
    simp only [List.map_cons] at hx
    have hv := he x
    generalize e x = y at hx hv
    cases y with
    | own o =>
      simp only [argsOf] at hx
      split at hx
      · rename_i ds' ns' rd' h1
        simp only [Option.some.injEq, Prod.mk.injEq] at hx
        obtain ⟨rfl, rfl, rfl⟩ := hx
        unfold RArgs
        refine ⟨ds', ρ x, xs.map ρ, rfl, rfl, ?_, args_some h hF he ls xs ds' ns' rd' (k + 1) h1 hrd (fun j n hj => by have := hk (j + 1) n (by simpa using hj); rwa [show k + (j + 1) = k + 1 + j from by omega] at this)⟩
        simp only [if_true]
        unfold RV at hv ⊢
        have := hk 0 o (by simp)
        rw [Nat.add_zero] at this
        rw [this]; exact hv
      · cases hx
    | _ => simp [argsOf] at hx

theorem rd_go_live : ∀ {l : List AV} {ds : List D} {rd : List Nat}, rdD.go σ l = some (ds, rd) → ∀ o ∈ rd, ∃ x, σ o = some x
  | [], ds, rd, h => by simp [rdD.go] at h; obtain ⟨_, rfl⟩ := h; simp
  | x :: l, ds, rd, h => by
    unfold rdD.go at h
    split at h
    · rename_i heq; cases heq
    · rename_i d l' heq
      simp only [List.cons.injEq] at heq
      obtain ⟨rfl, rfl⟩ := heq
      split at h
      · rename_i ds' rd' hg
        simp only [Option.some.injEq, Prod.mk.injEq] at h
        obtain ⟨rfl, rfl⟩ := h
        exact rd_go_live hg
      · cases h
    · rename_i o l' heq
      simp only [List.cons.injEq] at heq
      obtain ⟨rfl, rfl⟩ := heq
      split at h
      · rename_i es xs ds' rd' ho hg
        simp only [Option.some.injEq, Prod.mk.injEq] at h
        obtain ⟨rfl, rfl⟩ := h
        intro o' ho'
        rcases List.mem_cons.1 ho' with rfl | ho'
        · obtain ⟨y, hy, _⟩ := slO_some ho
          exact ⟨_, hy⟩
        · exact rd_go_live hg o' ho'
      · cases h
    · cases h

theorem rd_live {x : AV} {d : D} {rd : List Nat} (h : rdD σ x = some (d, rd)) : ∀ o ∈ rd, ∃ x, σ o = some x := by
  unfold rdD at h
  split at h
  · simp only [Option.some.injEq, Prod.mk.injEq] at h
    obtain ⟨rfl, rfl⟩ := h; simp
  · split at h
    · rename_i ho
      simp only [Option.some.injEq, Prod.mk.injEq] at h
      obtain ⟨rfl, rfl⟩ := h
      intro o' ho'
      simp at ho'; subst ho'
      obtain ⟨y, hy, _⟩ := slO_some ho
      exact ⟨_, hy⟩
    · cases h
  · split at h
    · rename_i hg
      simp only [Option.some.injEq, Prod.mk.injEq] at h
      obtain ⟨rfl, rfl⟩ := h
      exact rd_go_live hg
    · cases h
  · cases h

theorem args_live : ∀ (ls : List (Option Bool)) (xs : List AV) (ds : List D) (ns rd : List Nat), argsOf σ ls xs = some (ds, ns, rd) → ∀ o ∈ rd, ∃ x, σ o = some x
  | [], [], ds, ns, rd, hx => by simp [argsOf] at hx; obtain ⟨_, _, rfl⟩ := hx; simp
  | [], x :: xs, ds, ns, rd, hx => by simp [argsOf] at hx
  | none :: ls, [], ds, ns, rd, hx => by simp [argsOf] at hx
  | some b :: ls, [], ds, ns, rd, hx => by cases b <;> simp [argsOf] at hx
  | none :: ls, x :: xs, ds, ns, rd, hx => by
    unfold argsOf at hx
    split at hx
    · rename_i d rd1 ds' ns' rd2 h1 h2
      simp only [Option.some.injEq, Prod.mk.injEq] at hx
      obtain ⟨rfl, rfl, rfl⟩ := hx
      intro o ho
      rcases List.mem_append.1 ho with ho | ho
      · exact rd_live h1 o ho
      · exact args_live ls xs _ _ _ h2 o ho
    · cases hx
  | some false :: ls, x :: xs, ds, ns, rd, hx => by
    cases x with
    | ref o i =>
      cases i with
      | zero =>
        simp only [argsOf] at hx
        split at hx
        · rename_i h1
          simp only [Option.some.injEq, Prod.mk.injEq] at hx
          obtain ⟨rfl, rfl, rfl⟩ := hx
          exact args_live ls xs _ _ _ h1
        · cases hx
      | succ i => simp [argsOf] at hx
    | _ => simp [argsOf] at hx
  | some true :: ls, x :: xs, ds, ns, rd, hx => by
    cases x with
    | own o =>
      simp only [argsOf] at hx
      split at hx
      · rename_i h1
        simp only [Option.some.injEq, Prod.mk.injEq] at hx
        obtain ⟨rfl, rfl, rfl⟩ := hx
        exact args_live ls xs _ _ _ h1
      · cases hx
    | _ => simp [argsOf] at hx

theorem objsOf_some : ∀ {ns : List Nat} {obs : List Obj'}, objsOf σ ns = some obs → obs.length = ns.length ∧ ∀ (j n : Nat), ns[j]? = some n → ∃ x, obs[j]? = some (x.regen 0) ∧ σ n = some x
  | [], obs, h => by simp [objsOf] at h; subst h; simp
  | o :: ns, obs, h => by
    unfold objsOf at h
    split at h
    · rename_i x l hx hl
      simp only [Option.some.injEq] at h
      subst h
      obtain ⟨h1, h2⟩ := objsOf_some hl
      refine ⟨by simp [h1], fun j n hj => ?_⟩
      cases j with
      | zero => simp at hj; subst hj; exact ⟨x, by simp, hx⟩
      | succ j => simpa using h2 j n (by simpa using hj)
    · cases h

theorem app_append (δ δ' : Delta) (σ : Objs) : app (δ ++ δ') σ = app δ' (app δ σ) := by
  induction δ generalizing σ with
  | nil => rfl
  | cons p δ ih => obtain ⟨o, x⟩ := p; simp only [List.cons_append, app]; exact ih _

theorem app_newObjs : ∀ (new : List Obj') (nm : Nat) (σ : Objs) (n : Nat), app (newObjs nm new) σ n = if nm ≤ n ∧ n < nm + new.length then (new[n - nm]?).map (·.regen n) else σ n
  | [], nm, σ, n => by simp [newObjs, app]; omega
  | x :: r, nm, σ, n => by
    simp only [newObjs, app]
    rw [app_newObjs r (nm + 1) _ n]
    by_cases h1 : n = nm
    · subst h1
      rw [if_neg (by omega), if_pos (by simp), upd_same]; simp
    · rw [upd_ne h1]
      by_cases h2 : nm + 1 ≤ n ∧ n < nm + 1 + r.length
      · rw [if_pos h2, if_pos (by simp only [List.length_cons]; omega), show n - nm = (n - (nm + 1)) + 1 from by omega, List.getElem?_cons_succ]
      · rw [if_neg h2, if_neg (by simp only [List.length_cons]; omega)]

theorem app_lentObjs : ∀ (ns : List Nat) (obs : List Obj') (σ : Objs) (n : Nat), ns.Nodup → obs.length = ns.length → (∀ j : Nat, ns[j]? = some n → app (lentObjs ns obs) σ n = obs[j]?) ∧ (n ∉ ns → app (lentObjs ns obs) σ n = σ n)
  | [], obs, σ, n, _, _ => by simp [lentObjs, app]
  | o :: ns, [], σ, n, _, hl => by simp at hl
  | o :: ns, x :: obs, σ, n, hd, hl => by
    simp only [lentObjs, app]
    obtain ⟨hd1, hd2⟩ := List.nodup_cons.1 hd
    obtain ⟨h1, h2⟩ := app_lentObjs ns obs (upd σ o (some x)) n hd2 (by simpa using hl)
    refine ⟨fun j hj => ?_, fun hn => ?_⟩
    · cases j with
      | zero =>
        simp at hj; subst hj
        rw [h2 hd1, upd_same]; simp
      | succ j => simpa using h1 j (by simpa using hj)
    · have hn' : n ≠ o ∧ n ∉ ns := by simpa using hn
      rw [h2 hn'.2, upd_ne hn'.1]

mutual
theorem RV.shift {κ' κ2 : Kap} {F' : Nat → Prop} {w' : World} {m : Nat} (hk : ∀ j, j < m → κ2 (nm + j) = κ' j) : ∀ {x : AV} {v : Value}, NB (· < m) x → RV κ' F' w' x v → RV κ2 F' w' (x.shift nm) v
  | .dat d, v, _, h => by unfold AV.shift; unfold RV at h ⊢; exact h
  | .own o, v, hn, h => by unfold NB at hn; unfold AV.shift; unfold RV at h ⊢; rw [hk o hn]; exact h
  | .ref o i, v, hn, h => by unfold NB at hn; unfold AV.shift; unfold RV at h ⊢; rw [hk o hn]; exact h
  | .aggv l, v, hn, h => by
    unfold NB at hn; unfold AV.shift; unfold RV at h ⊢
    obtain ⟨cs, h1, h2⟩ := h
    exact ⟨cs, h1, RVc.shift hk hn h2⟩
  | .tup l, v, hn, h => by
    unfold NB at hn; unfold AV.shift; unfold RV at h ⊢
    obtain ⟨cs, h1, h2⟩ := h
    exact ⟨cs, h1, RVs.shift hk hn h2⟩
  | .eref _ _ _ _, v, _, h => by unfold AV.shift; unfold RV; trivial
  | .row _ _ _ _, v, _, h => by unfold AV.shift; unfold RV; trivial
  | .rref _ _ _ _ _ _ _, v, _, h => by unfold AV.shift; unfold RV; trivial
  | .fp _, v, _, h => by unfold AV.shift; unfold RV; trivial
  | .fn _ _, v, _, h => by unfold AV.shift; unfold RV; trivial
  | .und, v, _, h => by unfold AV.shift; unfold RV; trivial
  | .unk, v, _, h => by unfold AV.shift; unfold RV; trivial
theorem RVs.shift {κ' κ2 : Kap} {F' : Nat → Prop} {w' : World} {m : Nat} (hk : ∀ j, j < m → κ2 (nm + j) = κ' j) : ∀ {l : List AV} {us : List Value}, NBs (· < m) l → RVs κ' F' w' l us → RVs κ2 F' w' (shifts nm l) us
  | [], us, _, h => by unfold shifts; unfold RVs at h ⊢; exact h
  | x :: l, us, hn, h => by
    unfold NBs at hn; unfold shifts; unfold RVs at h ⊢
    obtain ⟨u, us', h1, h2, h3⟩ := h
    exact ⟨u, us', h1, RV.shift hk hn.1 h2, RVs.shift hk hn.2 h3⟩
theorem RVc.shift {κ' κ2 : Kap} {F' : Nat → Prop} {w' : World} {m : Nat} (hk : ∀ j, j < m → κ2 (nm + j) = κ' j) : ∀ {l : List AV} {us : List Value}, NBs (· < m) l → RVc κ' F' w' l us → RVc κ2 F' w' (shifts nm l) us
  | [], us, _, h => by unfold shifts; unfold RVc at h ⊢; exact h
  | x :: l, us, hn, h => by
    unfold NBs at hn; unfold shifts; unfold RVc at h ⊢
    obtain ⟨u, us', h1, h1', h2, h3⟩ := h
    exact ⟨u, us', h1, h1', RV.shift hk hn.1 h2, RVc.shift hk hn.2 h3⟩
end
mutual
theorem NB.shift {m : Nat} (hm : m ≤ 16) : ∀ {x : AV}, NB (· < m) x → NB (Un U nm) (x.shift nm)
  | .dat d, _ => by unfold AV.shift; unfold NB; trivial
  | .own o, hn => by unfold NB at hn; unfold AV.shift; unfold NB; exact .inr ⟨by omega, by omega⟩
  | .ref o i, hn => by unfold NB at hn; unfold AV.shift; unfold NB; exact .inr ⟨by omega, by omega⟩
  | .aggv l, hn => by unfold NB at hn; unfold AV.shift; unfold NB; exact NBs.shift hm hn
  | .tup l, hn => by unfold NB at hn; unfold AV.shift; unfold NB; exact NBs.shift hm hn
  | .eref _ _ _ _, _ => by unfold AV.shift; unfold NB; trivial
  | .row _ _ _ _, _ => by unfold AV.shift; unfold NB; trivial
  | .rref _ _ _ _ _ _ _, _ => by unfold AV.shift; unfold NB; trivial
  | .fp _, _ => by unfold AV.shift; unfold NB; trivial
  | .fn _ _, _ => by unfold AV.shift; unfold NB; trivial
  | .und, _ => by unfold AV.shift; unfold NB; trivial
  | .unk, _ => by unfold AV.shift; unfold NB; trivial
theorem NBs.shift {m : Nat} (hm : m ≤ 16) : ∀ {l : List AV}, NBs (· < m) l → NBs (Un U nm) (shifts nm l)
  | [], _ => by unfold shifts; unfold NBs; trivial
  | x :: l, hn => by unfold NBs at hn; unfold shifts; unfold NBs; exact ⟨NB.shift hm hn.1, NBs.shift hm hn.2⟩
end

theorem exec_call {o : Oper} {ρ : Operand → Value} {f : Nat} {args : Array Operand} {ts : Array TypeId} (ho : o.op = .call { callee := .value (.func f), args := args, argTypes := ts }) (hρ : ρ (.func f) = .func (.func f) #[] #[])
    (hc : ∀ args w, (callFunc f args).run P w = .ok (.enter f args) w) : (execOp ρ o).run P w = .ok (.enter f (args.map ρ)) w := by
  unfold execOp
  simp only [ho, resolve, hρ, Deferred.ofValue, Sem.run_bind, Sem.run_pure, Result.andThen_ok, Array.empty_append, invoke, Array.append_empty, hc]

theorem RD.nz {F : Nat → Prop} {w : World} (sh : List (Option Nat)) {d : D} {v : Value} (h : RD F w d v) : RD F w (nzD sh d) v := by
  unfold nzD
  split
  · unfold RD at h ⊢
    obtain ⟨cs, h1, h2⟩ := h
    exact ⟨cs, h1, RC.nz sh _ _ h2⟩
  · split
    · unfold RD at h ⊢
      exact ⟨none, 0, h.1, Nat.le_refl _, by unfold maxLen; omega, fun _ => rfl, .inl rfl⟩
    · exact h
  · exact h
theorem RArgs.nz {κ : Kap} {F : Nat → Prop} {w : World} {ty : TypeId → Option TyE} : ∀ (ls : List (Option Bool)) (ts : List TypeId) (ds : List D) (k : Nat) (vs : List Value), RArgs κ F w ls ds k vs → RArgs κ F w ls (nzL ty ts ds) k vs
  | ls, [], ds, k, vs, h => by unfold nzL; exact h
  | [], t :: ts, ds, k, vs, h => by
    unfold RArgs at h ⊢
    obtain ⟨rfl, rfl⟩ := h
    exact ⟨by unfold nzL; rfl, rfl⟩
  | none :: ls, t :: ts, ds, k, vs, h => by
    unfold RArgs at h ⊢
    obtain ⟨d, ds', v, vs', rfl, rfl, h1, h2⟩ := h
    exact ⟨nzD (shp ty 6 t) d, nzL ty ts ds', v, vs', rfl, rfl, h1.nz _, RArgs.nz ls ts ds' k vs' h2⟩
  | some b :: ls, t :: ts, ds, k, vs, h => by
    unfold RArgs at h ⊢
    obtain ⟨ds', v, vs', rfl, rfl, h1, h2⟩ := h
    exact ⟨nzL ty ts ds', v, vs', rfl, rfl, h1, RArgs.nz ls ts ds' (k + 1) vs' h2⟩

theorem sound_call (hΓ : ∀ f S, Γ f = some S → FnOK P f S) (h : ORel cx κ F w U σ) (hf : ∀ j, j < 16 → ¬ U (nm + j)) {o : Oper} {ρ : Operand → Value} {e : Operand → AV} (he : ∀ x, RV κ F w (e x) (ρ x)) {f : Nat} {args : Array Operand} {ts : Array TypeId}
    (ho : o.op = .call { callee := .value (.func f), args := args, argTypes := ts }) (hρ : ρ (.func f) = .func (.func f) #[] #[]) : Sound P cx κ F w U nm σ o ρ (callSpec ty Γ σ nm f (args.toList.map e) ts.toList) := by
  unfold callSpec
  split
  · intro hp; exact hp.elim
  · rename_i S hS
    obtain ⟨hc, hok⟩ := hΓ f S hS
    split
    · intro hp; exact hp.elim
    · rename_i ds ns_ rd_ hargs'
      obtain ⟨⟨ds0, ns, rd⟩, hargs, hargs2⟩ := Option.map_eq_some_iff.1 hargs'
      simp only [Prod.mk.injEq] at hargs2
      obtain ⟨hds, rfl, rfl⟩ := hargs2
      split
      · intro hp; exact hp.elim
      · rename_i obs hobs
        intro hp
        obtain ⟨p1, p2, p3, p5, p4⟩ := (show _ ∧ _ ∧ _ ∧ _ ∧ _ from hp)
        obtain ⟨hol, hoj⟩ := objsOf_some hobs
        have hns : ∀ (j : Nat) (n : Nat), ns[j]? = some n → j < ns.length := fun j n hj => (List.getElem?_eq_some_iff.1 hj).1
        have hget : ∀ (j : Nat) (x : Obj'), obs[j]? = some x → ∃ n, ns[j]? = some n ∧ σ n = some x := fun j x hj => by
          have hlt := (List.getElem?_eq_some_iff.1 hj).1
          have hj' : ns[j]? = some (ns[j]'(by omega)) := List.getElem?_eq_getElem (by omega)
          obtain ⟨y, hy, hσ⟩ := hoj j _ hj'
          rw [hj] at hy; cases hy
          have hpl := p5 _ (List.mem_of_getElem? hj)
          rw [regen_plain hpl]
          exact ⟨_, hj', hσ⟩
        -- the callee's view
        let Fc : Nat → Prop := fun b => F b ∨ ∃ o ∈ rd, ∃ x, σ o = some x ∧ Blk κ o x b
        let κc : Kap := fun j => κ (ns.getD j 0)
        have hκc : ∀ j n, ns[j]? = some n → κc j = κ n := fun j n hj => by
          show κ (ns.getD j 0) = κ n
          rw [List.getD_eq_getElem?_getD, hj]; rfl
        have hlive := args_live S.lend _ ds0 ns rd hargs
        have hFsub : ∀ b, F b → Fc b := fun b hb => .inl hb
        have hFcl : ∀ b, Fc b → b < w.heap.size := fun b hb => by
          rcases hb with hb | ⟨o', ho', x, hx, hb⟩
          · exact (h.fG b hb).2
          · exact blk_lt h hx hb
        have hro : RObjs κc Fc w (fun b => b < w.heap.size ∧ ¬ Fc b) obs := by
          refine ⟨fun j x hj => ?_, fun j x hj b hb => ?_, fun i x j y hi hj hne b hb hb' => ?_⟩
          · obtain ⟨n, hn, hσ⟩ := hget j x hj
            have hnb := p5 x (List.mem_of_getElem? hj)
            exact ⟨ObjOK.turn (o := n) (hκc j n hn) hnb (.inl hFsub) (h.ok n x hσ), hnb⟩
          · obtain ⟨n, hn, hσ⟩ := hget j x hj
            have hb := hb.turn (p5 x (List.mem_of_getElem? hj)) (hκc j n hn)
            refine ⟨blk_lt h hσ hb, fun hFb => ?_⟩
            rcases hFb with hFb | ⟨o', ho', y, hy, hb'⟩
            · exact (h.free n x hσ b hb).1 hFb
            · exact h.apart n x o' y hσ hy (fun e' => p3 n (List.mem_of_getElem? hn) (e' ▸ ho')) b hb hb'
          · obtain ⟨n, hn, hσ⟩ := hget i x hi
            obtain ⟨m, hm, hσ'⟩ := hget j y hj
            have hb := hb.turn (p5 x (List.mem_of_getElem? hi)) (hκc i n hn)
            have hb' := hb'.turn (p5 y (List.mem_of_getElem? hj)) (hκc j m hm)
            refine h.apart n x m y hσ hσ' (fun e' => hne ?_) b hb hb'
            have h1 := hns i n hn
            have h2 := hns j m hm
            have := (List.getElem_inj (h₀ := h1) (h₁ := h2) p2).1 (by
              rw [(List.getElem?_eq_some_iff.1 hn).2, (List.getElem?_eq_some_iff.1 hm).2]; exact e')
            exact this
        have hra0 := args_some (F' := Fc) (κc := κc) h hFsub he S.lend args.toList ds0 ns rd 0 hargs (fun o' ho' x hx b hb => .inr ⟨o', ho', x, hx, hb⟩) (fun j n hj => by rw [Nat.zero_add]; exact hκc j n hj)
        have hra := RArgs.nz (ty := ty) S.lend ts.toList ds0 0 _ hra0
        rw [hds] at hra
        have hcall := hok (args.toList.map ρ) w Fc ds obs κc p1 hra hFcl hro
        unfold Out
        rw [exec_call ho hρ hc]
        simp only []
        have hargs2 : args.map ρ = (args.toList.map ρ).toArray := by apply Array.ext'; rw [Array.toList_map]
        rw [hargs2]
        refine Calls.mono hcall ?_
        rintro e' w' ⟨v, rfl, r, new, obs', κ', F', ret⟩
        refine ⟨v, rfl, ?_⟩
        obtain ⟨few, _, _, same, hflat⟩ := p4 r new obs' ret.post
        let F2 : Nat → Prop := fun b => F b ∨ (F' b ∧ w.heap.size ≤ b)
        let κ2 : Kap := fun n => if nm ≤ n ∧ n < nm + 16 then κ' (n - nm) else κ n
        have hk2n : ∀ j, j < 16 → κ2 (nm + j) = κ' j := fun j hj => by
          show (if nm ≤ nm + j ∧ nm + j < nm + 16 then κ' (nm + j - nm) else κ (nm + j)) = κ' j
          rw [if_pos (by omega), Nat.add_sub_cancel_left]
        have hk2o : ∀ n, U n → κ2 n = κ n := fun n hn => by
          show (if nm ≤ n ∧ n < nm + 16 then κ' (n - nm) else κ n) = κ n
          rw [if_neg]
          rintro ⟨g1, g2⟩
          exact hf (n - nm) (by omega) (by rw [show nm + (n - nm) = n from by omega]; exact hn)
        have hnsU : ∀ n, n ∈ ns → ∃ x, σ n = some x := fun n hn => by
          obtain ⟨j, hj⟩ := List.getElem?_of_mem hn
          obtain ⟨x, _, hx⟩ := hoj j n hj
          exact ⟨x, hx⟩
        have hF2 : (∀ b, F' b → F2 b) ∨ (FlatAV r ∧ (∀ x ∈ new, FlatObj x) ∧ ∀ x ∈ obs', FlatObj x) := by
          rcases hflat with hrd | hfl
          · refine .inl fun b hb => ?_
            rcases ret.fr' b hb with hb' | hb'
            · rcases hb' with hb' | ⟨o', ho', _⟩
              · exact .inl hb'
              · rw [hrd] at ho'; cases ho'
            · exact .inr ⟨hb, hb'⟩
          · exact .inr hfl
        have hσ2 : ∀ n y, app (lentObjs ns obs' ++ newObjs nm new) σ n = some y → (∃ j x, n = nm + j ∧ new[j]? = some x ∧ y = x.regen n) ∨ (∃ j : Nat, ns[j]? = some n ∧ obs'[j]? = some y) ∨ (n ∉ ns ∧ σ n = some y) := by
          intro n y hy
          rw [app_append, app_newObjs] at hy
          split at hy
          · rename_i hr
            obtain ⟨x, hx, hxy⟩ := Option.map_eq_some_iff.1 hy
            exact .inl ⟨n - nm, x, by omega, hx, hxy.symm⟩
          · obtain ⟨g1, g2⟩ := app_lentObjs ns obs' σ n p2 (by rw [same, hol])
            by_cases hn : n ∈ ns
            · obtain ⟨j, hj⟩ := List.getElem?_of_mem hn
              rw [g1 j hj] at hy
              exact .inr (.inl ⟨j, hj, hy⟩)
            · rw [g2 hn] at hy
              exact .inr (.inr ⟨hn, hy⟩)
        -- blocks of what is not lent stay
        have hstay : ∀ b, b < w.heap.size → ¬ Lent κc obs b → w'.heap[b]? = w.heap[b]? := fun b hb hl => ret.wx.block b ⟨hb, hl⟩
        have hlent : ∀ b, Lent κc obs b → ∃ n x, n ∈ ns ∧ σ n = some x ∧ Blk κ n x b := by
          rintro b ⟨j, x, hj, hb⟩
          obtain ⟨n, hn, hσ⟩ := hget j x hj
          exact ⟨n, _, List.mem_of_getElem? hn, hσ, hb.turn (p5 x (List.mem_of_getElem? hj)) (hκc j n hn)⟩
        have hFw : ∀ b, F b → w'.heap[b]? = w.heap[b]? := fun b hb => hstay b (h.fG b hb).2 fun hl => by
          obtain ⟨n, x, _, hσ, hb'⟩ := hlent b hl
          exact (h.free n x hσ b hb').1 hb
        have hother : ∀ n y, n ∉ ns → σ n = some y → ∀ b, Blk κ n y b → w'.heap[b]? = w.heap[b]? := fun n y hn hy b hb => hstay b (blk_lt h hy hb) fun hl => by
          obtain ⟨m, x, hm, hσ, hb'⟩ := hlent b hl
          exact h.apart n y m x hy hσ (fun e' => hn (e' ▸ hm)) b hb hb'
        -- the blocks of the objects behind the call
        have hblk : ∀ n y, app (lentObjs ns obs' ++ newObjs nm new) σ n = some y → ∀ b, Blk κ2 n y b →
            (∃ j x, n = nm + j ∧ new[j]? = some x ∧ Blk κ' j (x.regen j) b ∧ w.heap.size ≤ b ∧ ¬ F' b) ∨ (∃ x, σ n = some x ∧ Blk κ n x b ∧ b < w.heap.size) := by
          intro n y hy b hb
          rcases hσ2 n y hy with ⟨j, x, rfl, hj, rfl⟩ | ⟨j, hj, hj'⟩ | ⟨hn, hσn⟩
          · have hlt : j < 16 := Nat.lt_of_lt_of_le (List.getElem?_eq_some_iff.1 hj).1 few
            have hb := hb.turnR (hk2n j hlt)
            have := ret.new.blk j x hj b hb
            exact .inl ⟨j, x, rfl, hj, hb, this.1, this.2⟩
          · obtain ⟨x, hx⟩ := hnsU n (List.mem_of_getElem? hj)
            have hb := (hb.turn (ret.lent j y hj').2 (hk2o n (h.nb n x hx).1)).base (x' := x) (ret.lent j y hj').2
            exact .inr ⟨x, hx, hb, blk_lt h hx hb⟩
          · have hb := hb.kap hk2o (h.nb n y hσn).1 (h.nb n y hσn).2
            exact .inr ⟨y, hσn, hb, blk_lt h hσn hb⟩
        have hsz := ret.wx.size
        refine ⟨r.shift nm, _, κ2, F2, ⟨r, new, obs', ret.post, rfl, rfl⟩, ?_, ?_, NB.shift few ret.nb⟩
        · refine ⟨hk2o, fun b hb => .inl hb, ⟨ret.wx.os, ret.wx.tape, ret.wx.output, hsz, fun b hb => ?_⟩, fun _ ho => un_sub ho, ?_⟩
          · rcases hb with hb | hb
            · exact hFw b hb
            · refine hstay b (Nat.lt_of_lt_of_le (h.kB b hb) h.bs) fun hl => ?_
              obtain ⟨n, x, _, hσ, hb'⟩ := hlent b hl
              exact (h.free n x hσ b hb').2.1 hb
          · refine ⟨fun n y hy => ?_, fun n y hy => ?_, fun n y hy b hb => ?_, fun n y n' y' hy hy' hne b hb hb' => ?_, fun b hb => ?_, h.kB, h.gB, Nat.le_trans h.bs hsz, fun j hj => ⟨un_sub (h.lt j hj).1, by rw [hk2o j (h.lt j hj).1]; exact (h.lt j hj).2⟩⟩
            · rcases hσ2 n y hy with ⟨j, x, rfl, hj, rfl⟩ | ⟨j, hj, hoj'⟩ | ⟨hn, hσn⟩
              · have hlt : j < 16 := Nat.lt_of_lt_of_le (List.getElem?_eq_some_iff.1 hj).1 few
                obtain ⟨g1, g2⟩ := ret.new.ok j x hj
                exact ObjOK.turnR (hk2n j hlt) g2 (hF2.imp id fun hfl => hfl.2.1 x (List.mem_of_getElem? hj)) g1
              · obtain ⟨x, hx⟩ := hnsU n (List.mem_of_getElem? hj)
                obtain ⟨g1, g2⟩ := ret.lent j y hoj'
                exact ObjOK.turn (by rw [hk2o n (h.nb n x hx).1, hκc j n hj]) g2 (hF2.imp id fun hfl => hfl.2.2 y (List.mem_of_getElem? hoj')) g1
              · have hu := h.nb n y hσn
                exact ObjOK.mono hk2o (fun b hb => .inl hb) hFw hu.1 hu.2 (hother n y hn hσn) (h.ok n y hσn)
            · rcases hσ2 n y hy with ⟨j, x, rfl, hj, rfl⟩ | ⟨j, hj, hoj'⟩ | ⟨hn, hσn⟩
              · have hlt : j < 16 := Nat.lt_of_lt_of_le (List.getElem?_eq_some_iff.1 hj).1 few
                have hun : Un U nm (nm + j) := .inr ⟨by omega, by omega⟩
                exact ⟨hun, NBt.nbo hun (ret.new.ok j x hj).2⟩
              · obtain ⟨x, hx⟩ := hnsU n (List.mem_of_getElem? hj)
                exact ⟨un_sub (h.nb n x hx).1, NBo.mono (fun _ hf => False.elim hf) (ret.lent j y hoj').2⟩
              · have hu := h.nb n y hσn
                exact ⟨un_sub hu.1, NBo.mono (fun _ ho => un_sub ho) hu.2⟩
            · rcases hblk n y hy b hb with ⟨j, _, _, _, _, g1, g2⟩ | ⟨x, hx, hb', hlt⟩
              · refine ⟨fun hF => ?_, fun hK => ?_, h.gB _ (Nat.le_trans h.bs g1)⟩
                · rcases hF with hF | hF
                  · have := (h.fG b hF).2; omega
                  · exact g2 hF.1
                · have := h.kB b hK; have := h.bs; omega
              · have := h.free n x hx b hb'
                refine ⟨fun hF => ?_, this.2⟩
                rcases hF with hF | hF
                · exact this.1 hF
                · omega
            · rcases hblk n y hy b hb with ⟨j, z, e1, hj, g0, g1, g2⟩ | ⟨x, hx, g0, hlt⟩
              · rcases hblk n' y' hy' b hb' with ⟨j', z', e1', hj', g0', g1', g2'⟩ | ⟨x', hx', g0', hlt'⟩
                · exact ret.new.apart j z j' z' hj hj' (fun e' => hne (by rw [e1, e1', e'])) b g0 g0'
                · omega
              · rcases hblk n' y' hy' b hb' with ⟨j', z', e1', hj', g0', g1', g2'⟩ | ⟨x', hx', g0', hlt'⟩
                · omega
                · exact h.apart n x n' x' hx hx' hne b g0 g0'
            · rcases hb with hb | hb
              · exact ⟨(h.fG b hb).1, Nat.lt_of_lt_of_le (h.fG b hb).2 hsz⟩
              · exact ⟨h.gB b (Nat.le_trans h.bs hb.2), ret.flt b hb.1⟩
        · refine RV.shift (m := new.length) (fun j hj => hk2n j (by omega)) ret.nb ?_
          rcases hF2 with hF2 | hfl
          · exact RV.mono (U := (· < new.length)) (fun _ _ => rfl) hF2 (fun _ _ => rfl) ret.nb ret.rv
          · exact RV.flat hfl.1 ret.rv

end
end Go.Ab
