/- My own layer: an array taken as a whole (a range over a copy of a great array): the load of the whole array, a part of it. -/
import Derived.Test.YtimaoofeephgjaaGreatDoorAbC
namespace Go.Ab
set_option linter.unusedVariables false
set_option linter.unusedSimpArgs false
section
variable {P : Program} {cx : Cx} {ty : TypeId → Option TyE} {Γ : Nat → Option FnSpec} {Q : Exit → St → Prop}

theorem X_reg1 (hty : ∀ t x, ty t = some x → TyOK P t x) (hΓ : ∀ f S, Γ f = some S → FnOK P cx.J f S) {k : Nat} (hk : cx.L = k) {id n : Nat} {o : Oper} {r : List Oper} {x : X} (hg : o.guard = none) {av : AV}
  (hstep : ∀ (κ : Kap) (F : Nat → Prop) (a : Act) (w : World), RelU cx κ F (· < x.nx) (envX n x.A) (obo x.L) a w → Out P o a.eval w (SR cx κ F w (· < x.nx) x.nx (obo x.L) (.det True [] av [])))
  (hs : List (Nat × H)) {ps : List Prop} (hp : AllP ps) (h : rP (exR (some k) chk0 ty Γ (o :: r) n r 1 hs ⟨putX x.A o.dst av, x.L, x.nx + 16⟩) = some ps)
  (hq : Q .normal ((rX (exR (some k) chk0 ty Γ (o :: r) n r 1 hs ⟨putX x.A o.dst av, x.L, x.nx + 16⟩)).st n)) : Ok P cx (.region id (o :: r).toArray false) Q (x.st n) := by
 cases he : exR (some k) chk0 ty Γ (o :: r) n r 1 hs ⟨putX x.A o.dst av, x.L, x.nx + 16⟩ with
 | none => rw [he] at h; cases h
 | some rr =>
  obtain ⟨ps', x'⟩ := rr
  rw [he] at h hq
  cases h
  intro κ F a w hr
  refine wp_region_lit (wpList_step fun K hK => ?_)
  rw [if_pos (by simp [Region.wanted, hg])]
  have hrU : RelU cx κ F (· < x.nx) (envX n x.A) (obo x.L) a w := ⟨hr.env, hr.orel⟩
  refine (hstep κ F a w hrU).wp ?_
  rintro v w' ⟨av', δ, κ', F', ⟨e1, e2⟩, ha, hv, hn⟩
  subst e1; subst e2
  have hun : (Un (· < x.nx) x.nx) = (· < x.nx + 16) := by funext m; simp only [Un, eq_iff_iff]; omega
  have hrel : Rel cx κ' F' ((⟨putX x.A o.dst av', x.L, x.nx + 16⟩ : X).st n) (a.put o.dst v) w' := by
   have h1 := hrU.env.put (d := o.dst) ha hv hn
   have h2 := ha.orel
   rw [hun] at h1 h2
   rw [putX_eq] at h1
   exact ⟨h1, h2⟩
  refine hK _ _ (exW_sound hty hΓ hk r 1 hs _ x' _ κ' F' _ w' he hp hrel ?_)
  intro κ2 F2 a2 w2 h1 h2 h3
  exact ⟨κ2, F2, x'.st n, hq, fun b hb => h1 b (ha.fr b hb), ha.wx.trans h2 (fun b hb => hb.imp (ha.fr b) fun hh => hh), h3⟩

abbrev flatE {α : Type} [Enc α] (l : List α) : List D := (l.map Enc.e).flatMap D.cells
theorem flatE_at {α : Type} [Enc α] (hc : ∀ x : α, (Enc.e x).cells.length = Enc.sz α) : ∀ (l : List α) (i : Nat) (x : α), l[i]? = some x → ((flatE l).drop (i * Enc.sz α)).take (Enc.sz α) = (Enc.e x).cells
 | [], i, x, h => by simp at h
 | y :: l, 0, x, h => by
  simp at h; subst h
  simp only [flatE, List.map_cons, List.flatMap_cons, Nat.zero_mul, List.drop_zero]
  exact List.take_left' (hc y)
 | y :: l, i + 1, x, h => by
  have ih := flatE_at hc l i x (by simpa using h)
  have e : (i + 1) * Enc.sz α = (Enc.e y).cells.length + i * Enc.sz α := by rw [hc, Nat.add_mul]; omega
  simp only [flatE, List.map_cons, List.flatMap_cons]
  rw [e, ← List.drop_drop, List.drop_left]
  exact ih

variable {J : Inv} {k n : Nat} {l : List (FO P J)} {x : X}
theorem ixA1 {α : Type} [Enc α] {ls : List α} {e : α} {id : Nat} {o : Oper} {r : List Oper} {t el : TypeId} {a i : Operand} {T E : TyE} {len : Nat} {kk : IntKind} {m : Int} (G : GG P ty cx k l) (hlt : 0 ≤ m ∧ m < (len : Int)) (he : idx ls m = some e) (p : HP)
  (hq : Q .normal ((rX (exR (some k) chk0 ty (GF l) (o :: r) n r 1 p.hs ⟨putX x.A o.dst (.dat (Enc.e e)), x.L, x.nx + 16⟩)).st n))
  (hc : ∀ x : α, (Enc.e x).cells = [Enc.e x] ∧ 1 = Enc.sz α)
  (hg : o.guard = none := by rfl) (ho : o.op = .index t a i := by rfl) (hT : ty t = some T := by rfl) (hTd : T.desc = .array len el := by rfl) (hE : ty el = some E := by rfl) (hA : E.isAgg = false := by rfl) (hz : E.size = Enc.sz α := by rfl) (ha : evX n x.A a = .dat (.agg (flatE ls)) := by kernel_rfl) (hi : evX n x.A i = .dat (.sc (.int kk m)) := by kernel_rfl)
  (h : rP (exR (some k) chk0 ty (GF l) (o :: r) n r 1 p.hs ⟨putX x.A o.dst (.dat (Enc.e e)), x.L, x.nx + 16⟩) = some p.ps := by kernel_rfl) : Ok P cx (.region id (o :: r).toArray false) Q (x.st n) := by
 refine X_reg1 G.t.ty G.ok G.hL hg (fun κ F ac w hr => ?_) p.hs p.ok h hq
 have hx : RV κ F w (evalA (envX n x.A) a) (ac.eval a) := eval_of hr.env
 have hy : RV κ F w (evalA (envX n x.A) i) (ac.eval i) := eval_of hr.env
 rw [← evX_eq] at hx hy
 rw [ha] at hx
 rw [hi] at hy
 unfold RV RD at hx hy
 obtain ⟨cs, h1, h2⟩ := hx
 have tok := G.t.ty el E hE
 have hu := (G.t.ty t T hT).1
 rw [hTd] at hu
 have i3 : ls[m.toNat]? = some e := by
  unfold idx at he
  rw [if_pos hlt.1] at he
  exact he
 have hpart := flatE_at (fun x => by rw [(hc x).1]; exact (hc x).2) ls m.toNat e i3
 have hz1 : Enc.sz α = 1 := (hc e).2.symm
 rw [hz1, Nat.mul_one, (hc e).1] at hpart
 have hat : (flatE ls)[m.toNat]? = some (Enc.e e) := by
  have : (((flatE ls).drop m.toNat).take 1)[0]? = some (Enc.e e) := by rw [hpart]; rfl
  rw [List.getElem?_take_of_lt (by omega), List.getElem?_drop] at this
  simpa using this
 obtain ⟨u, hu1, _, hu3⟩ := h2.at m.toNat _ hat
 refine out_val (v := u) (w' := w) ?_ (sr_same hr.orel ?_ (dat_nb _))
 ·unfold execOp
  simp only [ho]
  refine exec_v _ ?_
  have hcell : cs.toArray[m.toNat * 1]? = some u := by rw [Nat.mul_one, List.getElem?_toArray]; exact hu1
  simp only [Instr.index, hy.1, asIntOf, Sem.run_bind, run_underlying hu, Result.andThen_ok, h1, Sem.run_pure, part, hlt, and_self, run_isAgg' tok, hA, if_true, if_false, Bool.false_eq_true, run_sizeOf' tok, hz, hz1, hcell]
 ·unfold RV
  exact hu3
theorem ixS1 {α : Type} [Enc α] {ls : List α} {e : α} {id : Nat} {o : Oper} {r : List Oper} {c : Code} {t el : TypeId} {a i : Operand} {T E : TyE} {len : Nat} {kk : IntKind} {m : Int} (G : GG P ty cx k l) (hlt : 0 ≤ m ∧ m < (len : Int)) (he : idx ls m = some e) (p : HP)
  (hq : Ok P cx c Q ((rX (exR (some k) chk0 ty (GF l) (o :: r) n r 1 p.hs ⟨putX x.A o.dst (.dat (Enc.e e)), x.L, x.nx + 16⟩)).st n))
  (hc : ∀ x : α, (Enc.e x).cells = [Enc.e x] ∧ 1 = Enc.sz α)
  (hg : o.guard = none := by rfl) (ho : o.op = .index t a i := by rfl) (hT : ty t = some T := by rfl) (hTd : T.desc = .array len el := by rfl) (hE : ty el = some E := by rfl) (hA : E.isAgg = false := by rfl) (hz : E.size = Enc.sz α := by rfl) (ha : evX n x.A a = .dat (.agg (flatE ls)) := by kernel_rfl) (hi : evX n x.A i = .dat (.sc (.int kk m)) := by kernel_rfl)
  (h : rP (exR (some k) chk0 ty (GF l) (o :: r) n r 1 p.hs ⟨putX x.A o.dst (.dat (Enc.e e)), x.L, x.nx + 16⟩) = some p.ps := by kernel_rfl) : Ok P cx (.seq (.region id (o :: r).toArray false) c) Q (x.st n) :=
 Ok_seq (ixA1 G hlt he p hq hc hg ho hT hTd hE hA hz ha hi h)
end
end Go.Ab
