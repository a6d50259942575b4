/- My own layer, tenth part: calls by contract; regions. -/
import Derived.Test.YtjahononbnbjnaaAbTab8
namespace Go.Ab
set_option linter.unusedVariables false
set_option linter.unusedSimpArgs false

mutual
def ptAV : Pt → D → Nat → AV
 | .rd, d, _ => .dat d
 | .zr, d, _ => .dat d
 | .sl, _, k => .own k
 | .bx, _, k => .ref k 0
 | .bo _, _, k => .ref k 0
 | .ag l, .agg ds, k => .aggv (headAV l ds k)
 | .fn f l, .agg ds, k => .fn f (headAV l ds k)
 | _, _, _ => .unk
def headAV : List Pt → List D → Nat → List AV
 | [], _, _ => []
 | p :: ls, d :: ds, k => ptAV p d k :: headAV ls ds (k + p.n)
 | _ :: ls, [], k => .unk :: headAV ls [] k
end
def RArgs (κ : Kap) (F : Nat → Prop) (w : World) (ls : List Pt) (ds : List D) (k : Nat) (vs : List Value) : Prop := RVs κ F w (headAV ls ds k) vs

structure RNew (κ : Kap) (F : Nat → Prop) (w : World) (M : Nat → Prop) (obs : List Obj') : Prop where
 ok : ∀ j x, obs[j]? = some x → ObjOK κ F w j (x.regen j) ∧ NBl obs.length x
 blk : ∀ j x, obs[j]? = some x → ∀ b, Blk κ j (x.regen j) b → M b
 apart : ∀ i x j y, obs[i]? = some x → obs[j]? = some y → i ≠ j → ∀ b, Blk κ i (x.regen i) b → ¬ Blk κ j (y.regen j) b

def Lent (κ : Kap) (obs : List Obj') (b : Nat) : Prop := ∃ j x, obs[j]? = some x ∧ Blk κ j (x.regen j) b

structure Ret (S : FnSpec) (ds : List D) (obs : List Obj') (κ : Kap) (F : Nat → Prop) (w : World) (v : Value) (w' : World) (r : AV) (new obs' : List Obj') (κ' κl : Kap) (F' : Nat → Prop) : Prop where
 post : S.post ds obs r new obs'
 fr : ∀ b, F b → F' b
 fr' : ∀ b, F' b → F b ∨ Lent κ obs b ∨ w.heap.size ≤ b
 flt : ∀ b, F' b → b < w'.heap.size
 wx : Wx (fun b => b < w.heap.size ∧ ¬ Lent κ obs b) w w'
 rv : RV κ' F' w' r v
 nb : NB (· < new.length) r
 apart : ∀ (i : Nat) (x : Obj') (j : Nat) (y : Obj'), obs'[i]? = some x → new[j]? = some y → ∀ b, Blk κl i (x.regen i) b → ¬ Blk κ' j (y.regen j) b
 new : RNew κ' F' w' (fun b => (Lent κ obs b ∨ w.heap.size ≤ b) ∧ ¬ F' b) new
 lent : RNew κl F' w' (fun b => (Lent κ obs b ∨ w.heap.size ≤ b) ∧ ¬ F' b) obs'
 lv : ∀ j, j < obs'.length → (κl j).v = (κ j).v

def FnOK (P : Program) (J : Inv) (f : Nat) (S : FnSpec) : Prop :=
 (∀ args w, (callFunc f args).run P w = .ok (.enter f args) w) ∧
 ∀ (vs : List Value) (w : World) (F : Nat → Prop) (ds : List D) (obs : List Obj') (κ : Kap), S.pre ds obs → RArgs κ F w S.lend ds 0 vs → (∀ b, F b → b < w.heap.size) → JOK J F w →
  RNew κ F w (fun b => b < w.heap.size ∧ ¬ F b) obs →
  Calls P f vs.toArray w fun e w' => ∃ v, e = .returned v ∧ ∃ r new obs' κ' κl F', Ret S ds obs κ F w v w' r new obs' κ' κl F'

section
variable {P : Program} {cx : Cx} {κ : Kap} {F : Nat → Prop} {w : World} {U : Nat → Prop} {nm : Nat} {σ : Objs} {ty : TypeId → Option TyE} {Γ : Nat → Option FnSpec}

theorem RC.flat {F' : Nat → Prop} {w' : World} : ∀ {l : List D} {us : List Value}, (∀ d ∈ l, ∃ v, d = .sc v) → RC F w l us → RC F' w' l us
 | [], us, _, h => by unfold RC at h ⊢; exact h
 | d :: ds, us, hl, h => by
  unfold RC at h ⊢
  obtain ⟨u, us', h1, h2, h3, h4⟩ := h
  obtain ⟨v, rfl⟩ := hl d (List.mem_cons_self ..)
  unfold RD at h3
  exact ⟨u, us', h1, h2, by unfold RD; exact h3, RC.flat (fun d hd => hl d (List.mem_cons_of_mem _ hd)) h4⟩
theorem RD.flat {F' : Nat → Prop} {w' : World} {d : D} {v : Value} (hd : FlatD d) (h : RD F w d v) : RD F' w' d v := by
 cases d with
 | sc u => unfold RD at h ⊢; exact h
 | sl es l => exact hd.elim
 | agg l =>
  unfold RD at h ⊢
  obtain ⟨cs, h1, h2⟩ := h
  exact ⟨cs, h1, RC.flat hd h2⟩
theorem RE.flat {F' : Nat → Prop} {w' : World} {es : Nat} : ∀ {l : List D} {us : List Value}, (∀ d ∈ l, FlatD d) → RE F w es l us → RE F' w' es l us
 | [], us, _, h => by unfold RE at h ⊢; exact h
 | d :: ds, us, hl, h => by
  obtain ⟨u, us', rfl, h2, h3, h4⟩ := h.cons
  refine RE.mk h2 ?_ (RE.flat (fun d hd => hl d (List.mem_cons_of_mem _ hd)) h4)
  have hd := hl d (List.mem_cons_self ..)
  cases d with
  | sc v => exact RC.flat (by simp [D.cells]) h3
  | sl e l => exact hd.elim
  | agg l => exact RC.flat hd h3
theorem RV.flatC {F' : Nat → Prop} {w' : World} {x : AV} {v : Value} (hx : FlatC x) (h : RV κ F w x v) : RV κ F' w' x v := by
 cases x with
 | dat d => unfold RV at h ⊢; exact RD.flat hx h
 | own o => unfold RV at h ⊢; exact h
 | _ => exact hx.elim
theorem RVc.flat {F' : Nat → Prop} {w' : World} : ∀ {l : List AV} {us : List Value}, (∀ x ∈ l, FlatC x) → RVc κ F w l us → RVc κ F' w' l us
 | [], us, _, h => by unfold RVc at h ⊢; exact h
 | x :: l, us, hl, h => by
  unfold RVc at h ⊢
  obtain ⟨u, us', h1, h2, h3, h4⟩ := h
  exact ⟨u, us', h1, h2, RV.flatC (hl x (List.mem_cons_self ..)) h3, RVc.flat (fun d hd => hl d (List.mem_cons_of_mem _ hd)) h4⟩
theorem RV.flatE {F' : Nat → Prop} {w' : World} {x : AV} {v : Value} (hx : FlatE x) (h : RV κ F w x v) : RV κ F' w' x v := by
 cases x with
 | aggv l =>
  unfold RV at h ⊢
  obtain ⟨cs, h1, h2⟩ := h
  exact ⟨cs, h1, RVc.flat hx h2⟩
 | _ => exact RV.flatC hx h
theorem RVs.flat {F' : Nat → Prop} {w' : World} : ∀ {l : List AV} {us : List Value}, (∀ x ∈ l, FlatE x) → RVs κ F w l us → RVs κ F' w' l us
 | [], us, _, h => by unfold RVs at h ⊢; exact h
 | x :: l, us, hl, h => by
  unfold RVs at h ⊢
  obtain ⟨u, us', h1, h3, h4⟩ := h
  exact ⟨u, us', h1, RV.flatE (hl x (List.mem_cons_self ..)) h3, RVs.flat (fun d hd => hl d (List.mem_cons_of_mem _ hd)) h4⟩
theorem RV.flat {F' : Nat → Prop} {w' : World} {x : AV} {v : Value} (hx : FlatAV x) (h : RV κ F w x v) : RV κ F' w' x v := by
 cases x with
 | tup l =>
  unfold RV at h ⊢
  obtain ⟨cs, h1, h2⟩ := h
  exact ⟨cs, h1, RVs.flat hx h2⟩
 | _ => exact RV.flatE hx h
theorem ArrOK.flat {F' : Nat → Prop} {e : TypeId} {es : Nat} {u : Value} {l : List D} (hl : ∀ d ∈ l, FlatD d) (h : ArrOK F w e es u l) : ArrOK F' w e es u l := by
 obtain ⟨us, h1, h2, h3⟩ := h
 exact ⟨us, h1, RE.flat hl h2, h3⟩
theorem TabOK.flat {F' : Nat → Prop} {e : TypeId} {es : Nat} {mask : List (Option TypeId)} {l : List D} {u : Value} {r : Nat → Nat → Value} {hole : Option (Nat × Nat)} (hl : ∀ d ∈ l, FlatT mask d) (h : TabOK F w e es mask l u r hole) : TabOK F' w e es mask l u r hole := by
 refine ⟨h.pos, h.mlen, h.cells, ?_, h.apart, h.outer⟩
 obtain ⟨us, h1, h2, h3⟩ := h.mem
 refine ⟨us, h1, h2, fun k d j c hk hc => ?_⟩
 obtain ⟨x, g1, g2, g3⟩ := h3 k d j c hk hc
 have hf := hl d (List.mem_of_getElem? hk) j c hc
 refine ⟨x, g1, g2, ?_⟩
 cases hm : maskAt mask j with
 | none =>
  rw [hm] at g3 hf
  exact RD.flat hf g3
 | some e' =>
  rw [hm] at g3 hf
  rcases g3 with ⟨g6, g3 | ⟨es', rows, g4, g5⟩⟩
  ·exact ⟨g6, .inl g3⟩
  ·exact ⟨g6, .inr ⟨es', rows, g4, g5.flat (hf es' rows g4)⟩⟩

mutual
def NR (V : Nat → Prop) : AV → Prop
 | .own o | .ref o _ | .eref o _ _ _ => V o
 | .aggv l | .tup l | .fn _ l => NRs V l
 | _ => True
def NRs (V : Nat → Prop) : List AV → Prop
 | [] => True
 | x :: l => NR V x ∧ NRs V l
end
mutual
theorem NB.nr {V : Nat → Prop} : ∀ {x : AV}, NB V x → NR V x
 | .dat _, h => by unfold NR; trivial
 | .own o, h => by unfold NB at h; unfold NR; exact h
 | .ref o _, h => by unfold NB at h; unfold NR; exact h
 | .eref o _ _ _, h => by unfold NB at h; unfold NR; exact h
 | .row _ _ _ _, h => by unfold NR; trivial
 | .rref _ _ _ _ _ _ _, h => by unfold NR; trivial
 | .vw _ _ _ _ _ _ _, h => by unfold NR; trivial
 | .fp _, h => by unfold NR; trivial
 | .aggv l, h => by unfold NB at h; unfold NR; exact NBs.nr h
 | .tup l, h => by unfold NB at h; unfold NR; exact NBs.nr h
 | .fn _ l, h => by unfold NB at h; unfold NR; exact NBs.nr h
 | .und, h => by unfold NR; trivial
 | .unk, h => by unfold NR; trivial
theorem NBs.nr {V : Nat → Prop} : ∀ {l : List AV}, NBs V l → NRs V l
 | [], _ => by unfold NRs; trivial
 | x :: l, h => by unfold NBs at h; unfold NRs; exact ⟨NB.nr h.1, NBs.nr h.2⟩
end
mutual
theorem NR.mono {V V' : Nat → Prop} (hV : ∀ o, V o → V' o) : ∀ {x : AV}, NR V x → NR V' x
 | .dat _, h => by unfold NR; trivial
 | .own o, h => by unfold NR at h ⊢; exact hV o h
 | .ref o _, h => by unfold NR at h ⊢; exact hV o h
 | .eref o _ _ _, h => by unfold NR at h ⊢; exact hV o h
 | .row _ _ _ _, h => by unfold NR; trivial
 | .rref _ _ _ _ _ _ _, h => by unfold NR; trivial
 | .vw _ _ _ _ _ _ _, h => by unfold NR; trivial
 | .fp _, h => by unfold NR; trivial
 | .aggv l, h => by unfold NR at h ⊢; exact NRs.mono hV h
 | .tup l, h => by unfold NR at h ⊢; exact NRs.mono hV h
 | .fn _ l, h => by unfold NR at h ⊢; exact NRs.mono hV h
 | .und, h => by unfold NR; trivial
 | .unk, h => by unfold NR; trivial
theorem NRs.mono {V V' : Nat → Prop} (hV : ∀ o, V o → V' o) : ∀ {l : List AV}, NRs V l → NRs V' l
 | [], _ => by unfold NRs; trivial
 | x :: l, h => by unfold NRs at h ⊢; exact ⟨NR.mono hV h.1, NRs.mono hV h.2⟩
end
mutual
theorem NR.of_ren {V : Nat → Prop} {f : Nat → Nat} : ∀ {x : AV}, NB V (x.ren f) → NR (fun o => V (f o)) x
 | .dat _, h => by unfold NR; trivial
 | .own o, h => by unfold AV.ren NB at h; unfold NR; exact h
 | .ref o _, h => by unfold AV.ren NB at h; unfold NR; exact h
 | .eref o _ _ _, h => by unfold AV.ren NB at h; unfold NR; exact h
 | .row _ _ _ _, h => by unfold NR; trivial
 | .rref _ _ _ _ _ _ _, h => by unfold NR; trivial
 | .vw _ _ _ _ _ _ _, h => by unfold NR; trivial
 | .fp _, h => by unfold NR; trivial
 | .aggv l, h => by unfold AV.ren NB at h; unfold NR; exact NRs.of_ren h
 | .tup l, h => by unfold AV.ren NB at h; unfold NR; exact NRs.of_ren h
 | .fn _ l, h => by unfold AV.ren NB at h; unfold NR; exact NRs.of_ren h
 | .und, h => by unfold NR; trivial
 | .unk, h => by unfold NR; trivial
theorem NRs.of_ren {V : Nat → Prop} {f : Nat → Nat} : ∀ {l : List AV}, NBs V (rens f l) → NRs (fun o => V (f o)) l
 | [], _ => by unfold NRs; trivial
 | x :: l, h => by unfold rens NBs at h; unfold NRs; exact ⟨NR.of_ren h.1, NRs.of_ren h.2⟩
end
mutual
theorem NR.nb {V : Nat → Prop} {f : Nat → Nat} : ∀ {x : AV}, NR (fun o => V (f o)) x → NB V (x.ren f)
 | .dat _, h => by unfold AV.ren NB; trivial
 | .own o, h => by unfold NR at h; unfold AV.ren NB; exact h
 | .ref o _, h => by unfold NR at h; unfold AV.ren NB; exact h
 | .eref o _ _ _, h => by unfold NR at h; unfold AV.ren NB; exact h
 | .row _ _ _ _, h => by unfold AV.ren NB; trivial
 | .rref _ _ _ _ _ _ _, h => by unfold AV.ren NB; trivial
 | .vw _ _ _ _ _ _ _, h => by unfold AV.ren NB; trivial
 | .fp _, h => by unfold AV.ren NB; trivial
 | .aggv l, h => by unfold NR at h; unfold AV.ren NB; exact NRs.nb h
 | .tup l, h => by unfold NR at h; unfold AV.ren NB; exact NRs.nb h
 | .fn _ l, h => by unfold NR at h; unfold AV.ren NB; exact NRs.nb h
 | .und, h => by unfold AV.ren NB; trivial
 | .unk, h => by unfold AV.ren NB; trivial
theorem NRs.nb {V : Nat → Prop} {f : Nat → Nat} : ∀ {l : List AV}, NRs (fun o => V (f o)) l → NBs V (rens f l)
 | [], _ => by unfold rens NBs; trivial
 | x :: l, h => by unfold NRs at h; unfold rens NBs; exact ⟨NR.nb h.1, NRs.nb h.2⟩
end
mutual
theorem RV.ren {κ' : Kap} {F' : Nat → Prop} {f : Nat → Nat} (hF : ∀ b, F b → F' b) : ∀ {x : AV} {v : Value}, NR (fun o => (κ' (f o)).v = (κ o).v) x → RV κ F w x v → RV κ' F' w (x.ren f) v
 | .dat d, v, _, h => by unfold AV.ren; unfold RV at h ⊢; exact RD.mono hF (fun _ _ => rfl) h
 | .own o, v, hn, h => by unfold NR at hn; unfold AV.ren; unfold RV at h ⊢; rw [hn]; exact h
 | .ref o i, v, hn, h => by unfold NR at hn; unfold AV.ren; unfold RV at h ⊢; rw [hn]; exact h
 | .eref o es k j, v, hn, h => by unfold NR at hn; unfold AV.ren; unfold RV at h ⊢; rw [hn]; exact h
 | .row _ _ _ _, v, _, h => by unfold AV.ren RV; trivial
 | .rref _ _ _ _ _ _ _, v, _, h => by unfold AV.ren RV; trivial
 | .vw _ _ _ _ _ _ _, v, _, h => by unfold AV.ren RV; trivial
 | .fp ds, v, _, h => by
  unfold AV.ren; unfold RV at h ⊢
  obtain ⟨b, off, us, h1, h2, h3, h4⟩ := h
  exact ⟨b, off, us, h1, hF b h2, h3, RC.mono hF (fun _ _ => rfl) h4⟩
 | .aggv l, v, hn, h => by
  unfold NR at hn; unfold AV.ren; unfold RV at h ⊢
  obtain ⟨cs, h1, h2⟩ := h
  exact ⟨cs, h1, RVc.ren hF hn h2⟩
 | .tup l, v, hn, h => by
  unfold NR at hn; unfold AV.ren; unfold RV at h ⊢
  obtain ⟨cs, h1, h2⟩ := h
  exact ⟨cs, h1, RVs.ren hF hn h2⟩
 | .fn g l, v, hn, h => by
  unfold NR at hn; unfold AV.ren; unfold RV at h ⊢
  obtain ⟨cs, h1, h2⟩ := h
  exact ⟨cs, h1, RVs.ren hF hn h2⟩
 | .und, v, _, h => by unfold AV.ren; unfold RV at h ⊢; exact h
 | .unk, v, _, h => by unfold AV.ren RV; trivial
theorem RVs.ren {κ' : Kap} {F' : Nat → Prop} {f : Nat → Nat} (hF : ∀ b, F b → F' b) : ∀ {l : List AV} {us : List Value}, NRs (fun o => (κ' (f o)).v = (κ o).v) l → RVs κ F w l us → RVs κ' F' w (rens f l) us
 | [], us, _, h => by unfold rens; unfold RVs at h ⊢; exact h
 | x :: l, us, hn, h => by
  unfold NRs at hn; unfold rens; unfold RVs at h ⊢
  obtain ⟨u, us', h1, h2, h3⟩ := h
  exact ⟨u, us', h1, RV.ren hF hn.1 h2, RVs.ren hF hn.2 h3⟩
theorem RVc.ren {κ' : Kap} {F' : Nat → Prop} {f : Nat → Nat} (hF : ∀ b, F b → F' b) : ∀ {l : List AV} {us : List Value}, NRs (fun o => (κ' (f o)).v = (κ o).v) l → RVc κ F w l us → RVc κ' F' w (rens f l) us
 | [], us, _, h => by unfold rens; unfold RVc at h ⊢; exact h
 | x :: l, us, hn, h => by
  unfold NRs at hn; unfold rens; unfold RVc at h ⊢
  obtain ⟨u, us', h1, h1', h2, h3⟩ := h
  exact ⟨u, us', h1, h1', RV.ren hF hn.1 h2, RVc.ren hF hn.2 h3⟩
end
theorem ixN_at : ∀ {ns : List Nat} {o : Nat}, ixN ns o < ns.length → ns[ixN ns o]? = some o
 | [], o, h => by simp [ixN] at h
 | a :: r, o, h => by
  unfold ixN at h ⊢
  cases hb : Nat.beq a o with
  | true => have := Nat.eq_of_beq_eq_true hb; subst this; rfl
  | false =>
   rw [hb] at h
   simp only [cond_false, List.length_cons, Nat.add_lt_add_iff_right] at h
   simpa using ixN_at (o := o) h

theorem ObjOK.turnL {κ' : Kap} {F' : Nat → Prop} {o o' g g' L : Nat} {x : Obj'} {f : Nat → Nat} (hv : (κ' o').v = (κ o).v) (hr : (κ' g').r = (κ g).r) (hn : NBl L x) (hf : ∀ j, j < L → (κ' (f j)).v = (κ j).v) (hF : (∀ b, F b → F' b) ∨ FlatObj x) (h : ObjOK κ F w o (x.regen g)) : ObjOK κ' F' w o' ((x.ren f).regen g') := by
 cases x with
 | box T l =>
  obtain ⟨b, arr, h1, h2, h3⟩ := h
  refine ⟨b, arr, by rw [hv]; exact h1, h2, ?_⟩
  have hnr : NRs (fun o => (κ' (f o)).v = (κ o).v) l := NRs.mono hf (NBs.nr hn)
  rcases hF with hF | hF
  ·exact RVc.ren hF hnr h3
  ·exact RVc.ren (fun _ hb => hb) hnr (RVc.flat hF h3)
 | bld T E l q =>
  show BldOK w T E (κ' o').v ((κ' g').r 0 0) l
  rw [hv, hr]; exact h
 | mp t l =>
  show MapOK w (κ' o').v l
  rw [hv]; exact h
 | arr e es l =>
  show ArrOK F' w e es (κ' o').v l
  have h : ArrOK F w e es (κ o).v l := h
  rw [hv]
  rcases hF with hF | hF
  ·obtain ⟨us, h1, h2, h3⟩ := h
   exact ⟨us, h1, RE.mono hF (fun _ _ => rfl) h2, h3⟩
  ·exact h.flat hF
 | tab e es mask l q hole =>
  have ht : TabOK F w e es mask l (κ o).v (κ g).r hole := h
  show TabOK F' w e es mask l (κ' o').v (κ' g').r hole
  rw [hv, hr]
  rcases hF with hF | hF
  ·exact ht.mono hF (fun _ _ => rfl) (fun _ _ => rfl) (fun _ _ _ _ _ => rfl)
  ·exact ht.flat hF
theorem Blk.turnL {κ' : Kap} {o o' g g' b : Nat} {x : Obj'} {f : Nat → Nat} (hv : (κ' o').v = (κ o).v) (hr : (κ' g').r = (κ g).r) (h : Blk κ' o' ((x.ren f).regen g') b) : Blk κ o (x.regen g) b := by
 cases x with
 | tab e es mask l q hole =>
  rcases h with h | ⟨k, i, h1, h2⟩
  ·exact .inl (by rw [← hv]; exact h)
  ·exact .inr ⟨k, i, h1, by rw [← hr]; exact h2⟩
 | bld T E l q =>
  rcases h with h | h
  ·exact .inl (by rw [← hv]; exact h)
  ·refine .inr ?_
   show blk ((κ g).r 0 0) = some b
   rw [← hr]; exact h
 | _ =>
  rcases h with h | h
  ·exact .inl (by rw [← hv]; exact h)
  ·exact h.elim
theorem NBl.nbo {x : Obj'} {n L : Nat} {f : Nat → Nat} (hU : U n) (hf : ∀ j, j < L → U (f j)) (h : NBl L x) : NBo U ((x.ren f).regen n) := by
 cases x with
 | box T l => exact NRs.nb (NRs.mono hf (NBs.nr h))
 | arr e es l => trivial
 | mp t l => trivial
 | bld T E l g => exact hU
 | tab e es mask l g hole => exact hU

theorem NBl.nbo0 {x : Obj'} {n L : Nat} (hU : U n) (hf : ∀ j, j < L → U j) (h : NBl L x) : NBo U (x.regen n) := by
 cases x with
 | box T l => exact NBs.mono hf h
 | arr e es l => trivial
 | mp t l => trivial
 | bld T E l g => exact hU
 | tab e es mask l g hole => exact hU

def tk (κ : Kap) (σ : Objs) (n : Nat) : KV := match σ n with
 | some (.tab _ _ _ _ g _) => ⟨(κ n).v, (κ g).r⟩
 | some (.bld _ _ _ g) => ⟨(κ n).v, (κ g).r⟩
 | some (.box _ _) => ⟨(κ n).v, fun _ _ => .slice none 0 0⟩
 | _ => κ n
theorem tk_v (κ : Kap) (σ : Objs) (n : Nat) : (tk κ σ n).v = (κ n).v := by
 unfold tk; split <;> rfl
theorem ObjOK.named {κ2 : Kap} {F' : Nat → Prop} {n j L : Nat} {y : Obj'} {f : Nat → Nat} (hy : σ n = some y) (hn : NBl L ((y.ren f).regen 0)) (hk : κ2 j = tk κ σ n) (hf : ∀ o, f o < L → (κ2 (f o)).v = (κ o).v) (hF : ∀ b, F b → F' b) (h : ObjOK κ F w n y) : ObjOK κ2 F' w j (((y.ren f).regen 0).regen j) := by
 cases y with
 | box T l =>
  obtain ⟨b, arr, h1, h2, h3⟩ := h
  exact ⟨b, arr, by rw [hk, tk_v]; exact h1, h2, RVc.ren hF (NRs.mono hf (NRs.of_ren hn)) h3⟩
 | bld T E l g =>
  have hk' : κ2 j = ⟨(κ n).v, (κ g).r⟩ := by rw [hk]; unfold tk; rw [hy]
  show BldOK w T E (κ2 j).v ((κ2 j).r 0 0) l
  rw [hk']; exact h
 | mp t l =>
  show MapOK w (κ2 j).v l
  rw [hk, tk_v]; exact h
 | arr e es l => exact ObjOK.turnL (o := n) (g := n) (L := 0) (f := f) (x := .arr e es l) (by rw [hk, tk_v]) (by rw [hk]; unfold tk; rw [hy]) trivial (fun j hj => absurd hj (Nat.not_lt_zero _)) (.inl hF) h
 | tab e es mask l g hole =>
  have ht : TabOK F w e es mask l (κ n).v (κ g).r hole := h
  have hk' : κ2 j = ⟨(κ n).v, (κ g).r⟩ := by rw [hk]; unfold tk; rw [hy]
  show TabOK F' w e es mask l (κ2 j).v (κ2 j).r hole
  rw [hk']
  exact ht.mono hF (fun _ _ => rfl) (fun _ _ => rfl) (fun _ _ _ _ _ => rfl)
theorem Blk.named {κ2 : Kap} {n j b : Nat} {y : Obj'} {f : Nat → Nat} (hy : σ n = some y) (hk : κ2 j = tk κ σ n) (h : Blk κ2 j (((y.ren f).regen 0).regen j) b) : Blk κ n y b := by
 rcases h with h | h
 ·exact .inl (by rw [← tk_v κ σ n, ← hk]; exact h)
 ·cases y with
  | tab e es mask l g hole =>
   have hk' : κ2 j = ⟨(κ n).v, (κ g).r⟩ := by rw [hk]; unfold tk; rw [hy]
   obtain ⟨k, i, h1, h2⟩ := h
   refine .inr ⟨k, i, h1, ?_⟩
   rw [hk'] at h2; exact h2
  | bld T E l g =>
   have hk' : κ2 j = ⟨(κ n).v, (κ g).r⟩ := by rw [hk]; unfold tk; rw [hy]
   refine .inr ?_
   have h : blk ((κ2 j).r 0 0) = some b := h
   rw [hk'] at h; exact h
  | _ => exact h.elim

theorem rdD_go (h : ORel cx κ F w U σ) {F' : Nat → Prop} (hF : ∀ b, F b → F' b) : ∀ {l : List AV} {ds : List D} {rd : List Nat} {us : List Value}, rdD.go σ l = some (ds, rd) → (∀ o ∈ rd, ∀ x, σ o = some x → ∀ b, Blk κ o x b → F' b) → RVc κ F w l us → RC F' w ds us
 | [], ds, rd, us, hl, _, hr => by
  simp only [rdD.go, Option.some.injEq, Prod.mk.injEq] at hl
  obtain ⟨rfl, rfl⟩ := hl
  unfold RVc at hr; unfold RC; exact hr
 | x :: l, ds, rd, us, hl, hrd, hr => by
  unfold RVc at hr
  obtain ⟨u, us', rfl, h2, h3, h4⟩ := hr
  unfold rdD.go at hl
  split at hl
  ·rename_i heq; cases heq
  ·rename_i d l' heq
   simp only [List.cons.injEq] at heq
   obtain ⟨rfl, rfl⟩ := heq
   split at hl
   ·rename_i ds' rd' hg
    simp only [Option.some.injEq, Prod.mk.injEq] at hl
    obtain ⟨rfl, rfl⟩ := hl
    unfold RC
    unfold RV at h3
    exact ⟨u, us', rfl, h2, RD.mono hF (fun _ _ => rfl) h3, rdD_go h hF hg hrd h4⟩
   ·cases hl
  ·rename_i o l' heq
   simp only [List.cons.injEq] at heq
   obtain ⟨rfl, rfl⟩ := heq
   split at hl
   ·rename_i es xs ds' rd' ho hg
    simp only [Option.some.injEq, Prod.mk.injEq] at hl
    obtain ⟨rfl, rfl⟩ := hl
    unfold RC
    refine ⟨u, us', rfl, h2, ?_, rdD_go h hF hg (fun o ho => hrd o (List.mem_cons_of_mem _ ho)) h4⟩
    unfold RV at h3
    obtain ⟨y, hy, hsl⟩ := slO_some ho
    rw [h3.1]
    exact sl_rd h hF hy hsl fun b hb => hrd o (List.mem_cons_self ..) y hy b hb
   ·cases hl
  ·cases hl

theorem rdD_some (h : ORel cx κ F w U σ) {F' : Nat → Prop} (hF : ∀ b, F b → F' b) {x : AV} {d : D} {rd : List Nat} {v : Value} (hx : rdD σ x = some (d, rd)) (hrd : ∀ o ∈ rd, ∀ x, σ o = some x → ∀ b, Blk κ o x b → F' b) (hv : RV κ F w x v) : RD F' w d v := by
 unfold rdD at hx
 split at hx
 ·simp only [Option.some.injEq, Prod.mk.injEq] at hx
  obtain ⟨rfl, rfl⟩ := hx
  unfold RV at hv
  exact RD.mono hF (fun _ _ => rfl) hv
 ·rename_i o
  split at hx
  ·rename_i es xs ho
   simp only [Option.some.injEq, Prod.mk.injEq] at hx
   obtain ⟨rfl, rfl⟩ := hx
   unfold RV at hv
   obtain ⟨y, hy, hsl⟩ := slO_some ho
   rw [hv.1]
   exact sl_rd h hF hy hsl fun b hb => hrd o (List.mem_cons_self ..) y hy b hb
  ·cases hx
 ·split at hx
  ·rename_i ds rd' hg
   simp only [Option.some.injEq, Prod.mk.injEq] at hx
   obtain ⟨rfl, rfl⟩ := hx
   unfold RV at hv
   obtain ⟨cs, h1, h2⟩ := hv
   unfold RD
   exact ⟨cs, h1, rdD_go h hF hg hrd h2⟩
  ·cases hx
 ·cases hx

theorem rdV_not {x : AV} (h : ∀ o g k j es lo n, x ≠ .vw o g k j es lo n) : rdV σ x = rdD σ x := by cases x <;> first | rfl | exact absurd rfl (h _ _ _ _ _ _ _)
theorem rdV_some (h : ORel cx κ F w U σ) {F' : Nat → Prop} (hF : ∀ b, F b → F' b) {x : AV} {d : D} {rd : List Nat} {v : Value} (hx : rdV σ x = some (d, rd)) (hrd : ∀ o ∈ rd, ∀ x, σ o = some x → ∀ b, Blk κ o x b → F' b) (hp : rowP σ .rd x) (hv : RV κ F w x v) : RD F' w d v := by
 cases x with
 | vw o g k j es lo n =>
  unfold rdV at hx
  unfold rowP at hp
  cases ht : tabAt σ o g with
  | none => simp only [ht] at hp
  | some t =>
   simp only [ht, Option.some.injEq, Prod.mk.injEq] at hx hp
   obtain ⟨rfl, rfl⟩ := hx
   obtain ⟨p1, p2, p3, p4, p5⟩ := hp
   obtain ⟨e', _, ⟨us, hown, hre, hpos⟩, _, hrow⟩ := row_of h ht p3 p2 p1
   unfold RV at hv
   obtain ⟨a, m, cap, q1, q2, q3, _, rfl⟩ := hv
   rw [p4] at hown hre
   have hm : m = (rowOf t.l k j).2.length := by
    rcases hown.2 with ⟨g1, g2⟩ | ⟨g', off, cap', cur, g1, _⟩
    ·rw [q1] at g1; simp only [Value.slice.injEq] at g1; omega
    ·rw [q1] at g1; simp only [Value.slice.injEq] at g1; exact g1.2.1
   subst hm
   obtain ⟨c1, _⟩ := hown.cut (l := lo) (m := lo + n) q1 (by omega) p5
   rw [Nat.add_sub_cancel_left] at c1
   have hl : (((rowOf t.l k j).2.drop lo).take n).length = n := by rw [List.length_take, List.length_drop]; omega
   have hus : ((us.take ((lo + n) * es)).drop (lo * es)) = (us.drop (lo * es)).take (n * es) := by
    rw [List.drop_take, Nat.add_mul, Nat.add_sub_cancel_left]
   rw [hus] at c1
   refine RD_of_own (fun b hb => ?_) (by rw [hl]; exact c1) (RE.mono hF (fun _ _ => rfl) ((hre.drop lo).take n))
   refine hrd o (List.mem_cons_self ..) _ (tabAt_some ht) b (.inr ⟨k, j, hrow, ?_⟩)
   rcases hown.2 with ⟨g1, g2⟩ | ⟨g', off, cap', cur, g1, _⟩
   ·rw [q1] at g1; simp only [Value.slice.injEq] at g1
    obtain ⟨rfl, _, rfl⟩ := g1
    split at hb <;> simp [blk] at hb
   ·rw [q1] at g1; simp only [Value.slice.injEq] at g1
    obtain ⟨rfl, _, rfl⟩ := g1
    rw [q1]
    split at hb
    ·exact hb
    ·rw [Option.map_some, Addr.add_lit] at hb; exact hb
 | _ => exact rdD_some h hF ((rdV_not (by intros; simp)).symm.trans hx) hrd hv
theorem arg_bo {k : Nat} {x : AV} {d : D} {ns rd : List Nat} (h : argOf σ (.bo k) x = some (d, ns, rd)) : ∃ o T l, x = .ref o 0 ∧ σ o = some (.box T l) ∧ (ownsL l).length = k ∧ d = .sc undef ∧ ns = o :: ownsL l ∧ rd = [] := by
 cases x with
 | ref o i =>
  cases i with
  | zero =>
   simp only [argOf] at h
   split at h
   ·rename_i T l hl
    cases hb : Nat.beq (ownsL l).length k with
    | true =>
     rw [hb] at h
     simp only [cond_true, Option.some.injEq, Prod.mk.injEq] at h
     obtain ⟨rfl, rfl, rfl⟩ := h
     exact ⟨o, T, l, rfl, hl, Nat.eq_of_beq_eq_true hb, rfl, rfl, rfl⟩
    | false => rw [hb] at h; cases h
   ·cases h
  | succ i => simp [argOf] at h
 | _ => simp [argOf] at h
mutual
theorem arg_n : ∀ (p : Pt) (x : AV) (d : D) (ns rd : List Nat), argOf σ p x = some (d, ns, rd) → ns.length = p.n
 | .rd, x, d, ns, rd, h => by
  unfold argOf at h
  split at h
  ·cases h; unfold Pt.n; rfl
  ·cases h
 | .zr, x, d, ns, rd, h => by
  cases x with
  | dat d0 =>
   simp only [argOf, Option.some.injEq, Prod.mk.injEq] at h
   obtain ⟨rfl, rfl, rfl⟩ := h
   unfold Pt.n; rfl
  | _ => simp [argOf] at h
 | .sl, x, d, ns, rd, h => by
  cases x with
  | own o =>
   simp only [argOf, Option.some.injEq, Prod.mk.injEq] at h
   obtain ⟨rfl, rfl, rfl⟩ := h
   unfold Pt.n; rfl
  | _ => simp [argOf] at h
 | .bx, x, d, ns, rd, h => by
  cases x with
  | ref o i =>
   cases i with
   | zero =>
    simp only [argOf, Option.some.injEq, Prod.mk.injEq] at h
    obtain ⟨rfl, rfl, rfl⟩ := h
    unfold Pt.n; rfl
   | succ i => simp [argOf] at h
  | _ => simp [argOf] at h
 | .bo k, x, d, ns, rd, h => by
  obtain ⟨o, T, l, rfl, _, hk, _, rfl, _⟩ := arg_bo h
  unfold Pt.n
  rw [List.length_cons, hk, Nat.add_comm]
 | .ag l, x, d, ns, rd, h => by
  cases x with
  | aggv xs =>
   unfold argOf at h
   split at h
   ·rename_i ds ns' rd' h1
    cases h
    unfold Pt.n
    exact args_n l xs ds ns rd h1
   ·cases h
  | _ => simp [argOf] at h
 | .fn f l, x, d, ns, rd, h => by
  cases x with
  | fn f' xs =>
   unfold argOf at h
   split at h
   ·rename_i ds ns' rd' h1
    cases hb : Nat.beq f f' with
    | false => rw [hb] at h; cases h
    | true =>
     rw [hb] at h; cases h
     unfold Pt.n
     exact args_n l xs ds ns rd h1
   ·cases h
  | _ => simp [argOf] at h
theorem args_n : ∀ (ls : List Pt) (xs : List AV) (ds : List D) (ns rd : List Nat), argsOf σ ls xs = some (ds, ns, rd) → ns.length = Pt.ns ls
 | [], [], ds, ns, rd, h => by simp [argsOf] at h; obtain ⟨_, rfl, _⟩ := h; unfold Pt.ns; rfl
 | [], x :: xs, ds, ns, rd, h => by simp [argsOf] at h
 | p :: ls, [], ds, ns, rd, h => by simp [argsOf] at h
 | p :: ls, x :: xs, ds, ns, rd, h => by
  unfold argsOf at h
  split at h
  ·rename_i d ns1 rd1 ds' ns2 rd2 h1 h2
   cases h
   unfold Pt.ns
   rw [List.length_append, arg_n p x d ns1 rd1 h1, args_n ls xs ds' ns2 rd2 h2]
  ·cases h
end
mutual
theorem arg_some (h : ORel cx κ F w U σ) {F' : Nat → Prop} (hF : ∀ b, F b → F' b) {κc : Kap} :
  ∀ (p : Pt) (x : AV) (v : Value) (d : D) (ns rd : List Nat) (k : Nat), argOf σ p x = some (d, ns, rd) → rowP σ p x → (∀ o ∈ rd, ∀ x, σ o = some x → ∀ b, Blk κ o x b → F' b) →
   (∀ (j n : Nat), ns[j]? = some n → (κc (k + j)).v = (κ n).v) → RV κ F w x v → RV κc F' w (ptAV p d k) v
 | .rd, x, v, d, ns, rd, k, hx, hp, hrd, hk, hv => by
  unfold argOf at hx
  split at hx
  ·rename_i d1 rd1 h1
   cases hx
   unfold ptAV RV
   exact rdV_some h hF h1 hrd hp hv
  ·cases hx
 | .zr, x, v, d, ns, rd, k, hx, hp, hrd, hk, hv => by
  cases x with
  | dat d0 =>
   simp only [argOf, Option.some.injEq, Prod.mk.injEq] at hx
   obtain ⟨rfl, rfl, rfl⟩ := hx
   unfold ptAV
   unfold RV at hv ⊢
   exact RD.mono hF (fun _ _ => rfl) hv
  | _ => simp [argOf] at hx
 | .sl, x, v, d, ns, rd, k, hx, hp, hrd, hk, hv => by
  cases x with
  | own o =>
   simp only [argOf, Option.some.injEq, Prod.mk.injEq] at hx
   obtain ⟨rfl, rfl, rfl⟩ := hx
   unfold ptAV
   unfold RV at hv ⊢
   have := hk 0 o (by simp)
   rw [Nat.add_zero] at this
   rw [this]; exact hv
  | _ => simp [argOf] at hx
 | .bx, x, v, d, ns, rd, k, hx, hp, hrd, hk, hv => by
  cases x with
  | ref o i =>
   cases i with
   | zero =>
    simp only [argOf, Option.some.injEq, Prod.mk.injEq] at hx
    obtain ⟨rfl, rfl, rfl⟩ := hx
    unfold ptAV
    unfold RV at hv ⊢
    have := hk 0 o (by simp)
    rw [Nat.add_zero] at this
    rw [this]; exact hv
   | succ i => simp [argOf] at hx
  | _ => simp [argOf] at hx
 | .bo m, x, v, d, ns, rd, k, hx, hp, hrd, hk, hv => by
  obtain ⟨o, T, l, rfl, _, _, _, rfl, _⟩ := arg_bo hx
  unfold ptAV
  unfold RV at hv ⊢
  have := hk 0 o (by simp)
  rw [Nat.add_zero] at this
  rw [this]; exact hv
 | .ag l, x, v, d, ns, rd, k, hx, hp, hrd, hk, hv => by
  cases x with
  | aggv xs =>
   unfold argOf at hx
   split at hx
   ·rename_i ds ns' rd' h1
    cases hx
    unfold ptAV
    unfold RV at hv ⊢
    obtain ⟨cs, g1, g2⟩ := hv
    exact ⟨cs, g1, args_somec h hF l xs cs ds ns rd k h1 (by unfold rowP at hp; exact hp) hrd hk g2⟩
   ·cases hx
  | _ => simp [argOf] at hx
 | .fn f l, x, v, d, ns, rd, k, hx, hp, hrd, hk, hv => by
  cases x with
  | fn f' xs =>
   unfold argOf at hx
   split at hx
   ·rename_i ds ns' rd' h1
    cases hb : Nat.beq f f' with
    | false => rw [hb] at hx; cases hx
    | true =>
     rw [hb] at hx; cases hx
     have := Nat.eq_of_beq_eq_true hb
     subst this
     unfold ptAV
     unfold RV at hv ⊢
     obtain ⟨cs, g1, g2⟩ := hv
     exact ⟨cs, g1, args_some h hF l xs cs ds ns rd k h1 (by unfold rowP at hp; exact hp) hrd hk g2⟩
   ·cases hx
  | _ => simp [argOf] at hx
theorem args_some (h : ORel cx κ F w U σ) {F' : Nat → Prop} (hF : ∀ b, F b → F' b) {κc : Kap} :
  ∀ (ls : List Pt) (xs : List AV) (vs : List Value) (ds : List D) (ns rd : List Nat) (k : Nat), argsOf σ ls xs = some (ds, ns, rd) → rowsP σ ls xs → (∀ o ∈ rd, ∀ x, σ o = some x → ∀ b, Blk κ o x b → F' b) →
   (∀ (j n : Nat), ns[j]? = some n → (κc (k + j)).v = (κ n).v) → RVs κ F w xs vs → RVs κc F' w (headAV ls ds k) vs
 | [], [], vs, ds, ns, rd, k, hx, hp, hrd, hk, hv => by unfold headAV; unfold RVs at hv ⊢; exact hv
 | [], x :: xs, vs, ds, ns, rd, k, hx, _, _, _, _ => by simp [argsOf] at hx
 | p :: ls, [], vs, ds, ns, rd, k, hx, _, _, _, _ => by simp [argsOf] at hx
 | p :: ls, x :: xs, vs, ds, ns, rd, k, hx, hp, hrd, hk, hv => by
  unfold argsOf at hx
  split at hx
  ·rename_i d ns1 rd1 ds' ns2 rd2 h1 h2
   cases hx
   unfold rowsP at hp
   unfold RVs at hv
   obtain ⟨u, us', rfl, g1, g2⟩ := hv
   have hl := arg_n p x d ns1 rd1 h1
   unfold headAV RVs
   refine ⟨u, us', rfl, arg_some h hF p x u d ns1 rd1 k h1 hp.1 (fun o ho => hrd o (List.mem_append_left _ ho)) (fun j n hj => hk j n ?_) g1, args_some h hF ls xs us' ds' ns2 rd2 (k + p.n) h2 hp.2 (fun o ho => hrd o (List.mem_append_right _ ho)) (fun j n hj => ?_) g2⟩
   ·rw [List.getElem?_append_left (List.getElem?_eq_some_iff.1 hj).1]; exact hj
   ·have := hk (p.n + j) n (by rw [List.getElem?_append_right (by omega), ← hl, Nat.add_sub_cancel_left]; exact hj)
    rwa [← Nat.add_assoc] at this
  ·cases hx
theorem args_somec (h : ORel cx κ F w U σ) {F' : Nat → Prop} (hF : ∀ b, F b → F' b) {κc : Kap} :
  ∀ (ls : List Pt) (xs : List AV) (vs : List Value) (ds : List D) (ns rd : List Nat) (k : Nat), argsOf σ ls xs = some (ds, ns, rd) → rowsP σ ls xs → (∀ o ∈ rd, ∀ x, σ o = some x → ∀ b, Blk κ o x b → F' b) →
   (∀ (j n : Nat), ns[j]? = some n → (κc (k + j)).v = (κ n).v) → RVc κ F w xs vs → RVc κc F' w (headAV ls ds k) vs
 | [], [], vs, ds, ns, rd, k, hx, hp, hrd, hk, hv => by unfold headAV; unfold RVc at hv ⊢; exact hv
 | [], x :: xs, vs, ds, ns, rd, k, hx, _, _, _, _ => by simp [argsOf] at hx
 | p :: ls, [], vs, ds, ns, rd, k, hx, _, _, _, _ => by simp [argsOf] at hx
 | p :: ls, x :: xs, vs, ds, ns, rd, k, hx, hp, hrd, hk, hv => by
  unfold argsOf at hx
  split at hx
  ·rename_i d ns1 rd1 ds' ns2 rd2 h1 h2
   cases hx
   unfold rowsP at hp
   unfold RVc at hv
   obtain ⟨u, us', rfl, g0, g1, g2⟩ := hv
   have hl := arg_n p x d ns1 rd1 h1
   unfold headAV RVc
   refine ⟨u, us', rfl, g0, arg_some h hF p x u d ns1 rd1 k h1 hp.1 (fun o ho => hrd o (List.mem_append_left _ ho)) (fun j n hj => hk j n ?_) g1, args_somec h hF ls xs us' ds' ns2 rd2 (k + p.n) h2 hp.2 (fun o ho => hrd o (List.mem_append_right _ ho)) (fun j n hj => ?_) g2⟩
   ·rw [List.getElem?_append_left (List.getElem?_eq_some_iff.1 hj).1]; exact hj
   ·have := hk (p.n + j) n (by rw [List.getElem?_append_right (by omega), ← hl, Nat.add_sub_cancel_left]; exact hj)
    rwa [← Nat.add_assoc] at this
  ·cases hx
end

theorem rd_go_live : ∀ {l : List AV} {ds : List D} {rd : List Nat}, rdD.go σ l = some (ds, rd) → ∀ o ∈ rd, ∃ x, σ o = some x
 | [], ds, rd, h => by simp [rdD.go] at h; obtain ⟨_, rfl⟩ := h; simp
 | x :: l, ds, rd, h => by
  unfold rdD.go at h
  split at h
  ·rename_i heq; cases heq
  ·rename_i d l' heq
   simp only [List.cons.injEq] at heq
   obtain ⟨rfl, rfl⟩ := heq
   split at h
   ·rename_i ds' rd' hg
    simp only [Option.some.injEq, Prod.mk.injEq] at h
    obtain ⟨rfl, rfl⟩ := h
    exact rd_go_live hg
   ·cases h
  ·rename_i o l' heq
   simp only [List.cons.injEq] at heq
   obtain ⟨rfl, rfl⟩ := heq
   split at h
   ·rename_i es xs ds' rd' ho hg
    simp only [Option.some.injEq, Prod.mk.injEq] at h
    obtain ⟨rfl, rfl⟩ := h
    intro o' ho'
    rcases List.mem_cons.1 ho' with rfl | ho'
    ·obtain ⟨y, hy, _⟩ := slO_some ho
     exact ⟨_, hy⟩
    ·exact rd_go_live hg o' ho'
   ·cases h
  ·cases h

theorem rd_live {x : AV} {d : D} {rd : List Nat} (h : rdD σ x = some (d, rd)) : ∀ o ∈ rd, ∃ x, σ o = some x := by
 unfold rdD at h
 split at h
 ·simp only [Option.some.injEq, Prod.mk.injEq] at h
  obtain ⟨rfl, rfl⟩ := h; simp
 ·split at h
  ·rename_i ho
   simp only [Option.some.injEq, Prod.mk.injEq] at h
   obtain ⟨rfl, rfl⟩ := h
   intro o' ho'
   simp at ho'; subst ho'
   obtain ⟨y, hy, _⟩ := slO_some ho
   exact ⟨_, hy⟩
  ·cases h
 ·split at h
  ·rename_i hg
   simp only [Option.some.injEq, Prod.mk.injEq] at h
   obtain ⟨rfl, rfl⟩ := h
   exact rd_go_live hg
  ·cases h
 ·cases h

theorem rdV_live {x : AV} {d : D} {rd : List Nat} (h : rdV σ x = some (d, rd)) : ∀ o ∈ rd, ∃ x, σ o = some x := by
 cases x with
 | vw o g k j es lo n =>
  cases ht : tabAt σ o g with
  | none => simp only [rdV, ht] at h; cases h
  | some t =>
   simp only [rdV, ht, Option.some.injEq, Prod.mk.injEq] at h
   obtain ⟨rfl, rfl⟩ := h
   intro o' ho'
   simp at ho'; subst ho'
   exact ⟨_, tabAt_some ht⟩
 | _ => exact rd_live ((rdV_not (by intros; simp)).symm.trans h)
mutual
theorem arg_live : ∀ (p : Pt) (x : AV) (d : D) (ns rd : List Nat), argOf σ p x = some (d, ns, rd) → ∀ o ∈ rd, ∃ x, σ o = some x
 | .rd, x, d, ns, rd, h => by
  unfold argOf at h
  split at h
  ·rename_i h1
   cases h; exact rdV_live h1
  ·cases h
 | .zr, x, d, ns, rd, h => by
  cases x with
  | dat d0 =>
   simp only [argOf, Option.some.injEq, Prod.mk.injEq] at h
   obtain ⟨rfl, rfl, rfl⟩ := h
   simp
  | _ => simp [argOf] at h
 | .sl, x, d, ns, rd, h => by
  cases x with
  | own o =>
   simp only [argOf, Option.some.injEq, Prod.mk.injEq] at h
   obtain ⟨rfl, rfl, rfl⟩ := h
   simp
  | _ => simp [argOf] at h
 | .bx, x, d, ns, rd, h => by
  cases x with
  | ref o i =>
   cases i with
   | zero =>
    simp only [argOf, Option.some.injEq, Prod.mk.injEq] at h
    obtain ⟨rfl, rfl, rfl⟩ := h
    simp
   | succ i => simp [argOf] at h
  | _ => simp [argOf] at h
 | .bo k, x, d, ns, rd, h => by
  obtain ⟨_, _, _, _, _, _, _, _, rfl⟩ := arg_bo h
  simp
 | .ag l, x, d, ns, rd, h => by
  cases x with
  | aggv xs =>
   unfold argOf at h
   split at h
   ·rename_i ds ns' rd' h1
    cases h
    exact args_live l xs ds ns rd h1
   ·cases h
  | _ => simp [argOf] at h
 | .fn f l, x, d, ns, rd, h => by
  cases x with
  | fn f' xs =>
   unfold argOf at h
   split at h
   ·rename_i ds ns' rd' h1
    cases hb : Nat.beq f f' with
    | false => rw [hb] at h; cases h
    | true =>
     rw [hb] at h; cases h
     exact args_live l xs ds ns rd h1
   ·cases h
  | _ => simp [argOf] at h
theorem args_live : ∀ (ls : List Pt) (xs : List AV) (ds : List D) (ns rd : List Nat), argsOf σ ls xs = some (ds, ns, rd) → ∀ o ∈ rd, ∃ x, σ o = some x
 | [], [], ds, ns, rd, h => by simp [argsOf] at h; obtain ⟨_, _, rfl⟩ := h; simp
 | [], x :: xs, ds, ns, rd, h => by simp [argsOf] at h
 | p :: ls, [], ds, ns, rd, h => by simp [argsOf] at h
 | p :: ls, x :: xs, ds, ns, rd, h => by
  unfold argsOf at h
  split at h
  ·rename_i d ns1 rd1 ds' ns2 rd2 h1 h2
   cases h
   intro o ho
   rcases List.mem_append.1 ho with ho | ho
   ·exact arg_live p x d ns1 rd1 h1 o ho
   ·exact args_live ls xs ds' ns2 rd2 h2 o ho
  ·cases h
end

theorem objsF_some {f : Nat → Nat} : ∀ {ns : List Nat} {obs : List Obj'}, objsF σ f ns = some obs → obs.length = ns.length ∧ ∀ (j n : Nat), ns[j]? = some n → ∃ x, obs[j]? = some ((x.ren f).regen 0) ∧ σ n = some x
 | [], obs, h => by simp [objsF] at h; subst h; simp
 | o :: ns, obs, h => by
  unfold objsF at h
  split at h
  ·rename_i x l hx hl
   simp only [Option.some.injEq] at h
   subst h
   obtain ⟨h1, h2⟩ := objsF_some hl
   refine ⟨by simp [h1], fun j n hj => ?_⟩
   cases j with
   | zero => simp at hj; subst hj; exact ⟨x, by simp, hx⟩
   | succ j => simpa using h2 j n (by simpa using hj)
  ·cases h

theorem objsOf_some {ns : List Nat} {obs : List Obj'} (h : objsOf σ ns = some obs) : obs.length = ns.length ∧ ∀ (j n : Nat), ns[j]? = some n → ∃ x, obs[j]? = some ((x.ren (ixN ns)).regen 0) ∧ σ n = some x := objsF_some h

theorem app_append (δ δ' : Delta) (σ : Objs) : app (δ ++ δ') σ = app δ' (app δ σ) := by
 induction δ generalizing σ with
 | nil => rfl
 | cons p δ ih => obtain ⟨o, x⟩ := p; simp only [List.cons_append, app]; exact ih _

theorem app_newF {f : Nat → Nat} : ∀ (new : List Obj') (nm : Nat) (σ : Objs) (n : Nat), app (newF f nm new) σ n = if nm ≤ n ∧ n < nm + new.length then (new[n - nm]?).map (fun x => (x.ren f).regen n) else σ n
 | [], nm, σ, n => by simp [newF, app]; omega
 | x :: r, nm, σ, n => by
  simp only [newF, app]
  rw [app_newF r (nm + 1) _ n]
  by_cases h1 : n = nm
  ·subst h1
   rw [if_neg (by omega), if_pos (by simp), upd_same]; simp
  ·rw [upd_ne h1]
   by_cases h2 : nm + 1 ≤ n ∧ n < nm + 1 + r.length
   ·rw [if_pos h2, if_pos (by simp only [List.length_cons]; omega), show n - nm = (n - (nm + 1)) + 1 from by omega, List.getElem?_cons_succ]
   ·rw [if_neg h2, if_neg (by simp only [List.length_cons]; omega)]

theorem app_newObjs (new : List Obj') (nm : Nat) (σ : Objs) (n : Nat) : app (newObjs nm new) σ n = if nm ≤ n ∧ n < nm + new.length then (new[n - nm]?).map (fun x => (x.ren (fun j => nm + j)).regen n) else σ n := app_newF new nm σ n
theorem app_lentF {f : Nat → Nat} : ∀ (ns : List Nat) (obs : List Obj') (g : Nat) (σ : Objs) (n : Nat), ns.Nodup → obs.length ≤ ns.length → (∀ j : Nat, ns[j]? = some n → app (lentF f g ns obs) σ n = (obs[j]?).map (fun x => (x.ren f).regen (g + j))) ∧ (n ∉ ns → app (lentF f g ns obs) σ n = σ n)
 | [], obs, g, σ, n, _, _ => by simp [lentF, app]
 | o :: ns, [], g, σ, n, hd, _ => by
  simp only [lentF, app]
  obtain ⟨hd1, hd2⟩ := List.nodup_cons.1 hd
  obtain ⟨h1, h2⟩ := app_lentF (f := f) ns [] (g + 1) (upd σ o none) n hd2 (by simp)
  refine ⟨fun j hj => ?_, fun hn => ?_⟩
  ·cases j with
   | zero =>
    simp at hj; subst hj
    rw [h2 hd1, upd_same]; simp
   | succ j =>
    have := h1 j (by simpa using hj)
    rw [this]; simp
  ·have hn' : n ≠ o ∧ n ∉ ns := by simpa using hn
   rw [h2 hn'.2, upd_ne hn'.1]
 | o :: ns, x :: obs, g, σ, n, hd, hl => by
  simp only [lentF, app]
  obtain ⟨hd1, hd2⟩ := List.nodup_cons.1 hd
  obtain ⟨h1, h2⟩ := app_lentF (f := f) ns obs (g + 1) (upd σ o (some ((x.ren f).regen g))) n hd2 (by simpa using hl)
  refine ⟨fun j hj => ?_, fun hn => ?_⟩
  ·cases j with
   | zero =>
    simp at hj; subst hj
    rw [h2 hd1, upd_same]; simp
   | succ j =>
    have := h1 j (by simpa using hj)
    rw [this, List.getElem?_cons_succ, show g + 1 + j = g + (j + 1) from by omega]
  ·have hn' : n ≠ o ∧ n ∉ ns := by simpa using hn
   rw [h2 hn'.2, upd_ne hn'.1]
theorem app_lentObjs (ns : List Nat) (obs : List Obj') (g : Nat) (σ : Objs) (n : Nat) (h : ns.Nodup) (h' : obs.length ≤ ns.length) : (∀ j : Nat, ns[j]? = some n → app (lentObjs g ns obs) σ n = (obs[j]?).map (fun x => (x.ren (fun j => ns.getD j 0)).regen (g + j))) ∧ (n ∉ ns → app (lentObjs g ns obs) σ n = σ n) := app_lentF ns obs g σ n h h'

mutual
theorem RV.shift {κ' κ2 : Kap} {F' : Nat → Prop} {w' : World} {m : Nat} (hk : ∀ j, j < m → κ2 (nm + j) = κ' j) : ∀ {x : AV} {v : Value}, NB (· < m) x → RV κ' F' w' x v → RV κ2 F' w' (x.shift nm) v
 | .dat d, v, _, h => by unfold AV.shift; unfold RV at h ⊢; exact h
 | .own o, v, hn, h => by unfold NB at hn; unfold AV.shift; unfold RV at h ⊢; rw [hk o hn]; exact h
 | .ref o i, v, hn, h => by unfold NB at hn; unfold AV.shift; unfold RV at h ⊢; rw [hk o hn]; exact h
 | .aggv l, v, hn, h => by
  unfold NB at hn; unfold AV.shift; unfold RV at h ⊢
  obtain ⟨cs, h1, h2⟩ := h
  exact ⟨cs, h1, RVc.shift hk hn h2⟩
 | .tup l, v, hn, h => by
  unfold NB at hn; unfold AV.shift; unfold RV at h ⊢
  obtain ⟨cs, h1, h2⟩ := h
  exact ⟨cs, h1, RVs.shift hk hn h2⟩
 | .eref _ _ _ _, v, _, h => by unfold AV.shift; unfold RV; trivial
 | .row _ _ _ _, v, _, h => by unfold AV.shift; unfold RV; trivial
 | .rref _ _ _ _ _ _ _, v, _, h => by unfold AV.shift; unfold RV; trivial
 | .vw _ _ _ _ _ _ _, v, _, h => by unfold AV.shift; unfold RV; trivial
 | .fp _, v, _, h => by unfold AV.shift; unfold RV; trivial
 | .fn _ _, v, _, h => by unfold AV.shift; unfold RV; trivial
 | .und, v, _, h => by unfold AV.shift; unfold RV; trivial
 | .unk, v, _, h => by unfold AV.shift; unfold RV; trivial
theorem RVs.shift {κ' κ2 : Kap} {F' : Nat → Prop} {w' : World} {m : Nat} (hk : ∀ j, j < m → κ2 (nm + j) = κ' j) : ∀ {l : List AV} {us : List Value}, NBs (· < m) l → RVs κ' F' w' l us → RVs κ2 F' w' (shifts nm l) us
 | [], us, _, h => by unfold shifts; unfold RVs at h ⊢; exact h
 | x :: l, us, hn, h => by
  unfold NBs at hn; unfold shifts; unfold RVs at h ⊢
  obtain ⟨u, us', h1, h2, h3⟩ := h
  exact ⟨u, us', h1, RV.shift hk hn.1 h2, RVs.shift hk hn.2 h3⟩
theorem RVc.shift {κ' κ2 : Kap} {F' : Nat → Prop} {w' : World} {m : Nat} (hk : ∀ j, j < m → κ2 (nm + j) = κ' j) : ∀ {l : List AV} {us : List Value}, NBs (· < m) l → RVc κ' F' w' l us → RVc κ2 F' w' (shifts nm l) us
 | [], us, _, h => by unfold shifts; unfold RVc at h ⊢; exact h
 | x :: l, us, hn, h => by
  unfold NBs at hn; unfold shifts; unfold RVc at h ⊢
  obtain ⟨u, us', h1, h1', h2, h3⟩ := h
  exact ⟨u, us', h1, h1', RV.shift hk hn.1 h2, RVc.shift hk hn.2 h3⟩
end
mutual
theorem NB.shift {m : Nat} (hm : m ≤ 16) : ∀ {x : AV}, NB (· < m) x → NB (Un U nm) (x.shift nm)
 | .dat d, _ => by unfold AV.shift; unfold NB; trivial
 | .own o, hn => by unfold NB at hn; unfold AV.shift; unfold NB; exact .inr ⟨by omega, by omega⟩
 | .ref o i, hn => by unfold NB at hn; unfold AV.shift; unfold NB; exact .inr ⟨by omega, by omega⟩
 | .aggv l, hn => by unfold NB at hn; unfold AV.shift; unfold NB; exact NBs.shift hm hn
 | .tup l, hn => by unfold NB at hn; unfold AV.shift; unfold NB; exact NBs.shift hm hn
 | .eref _ _ _ _, _ => by unfold AV.shift; unfold NB; trivial
 | .row _ _ _ _, _ => by unfold AV.shift; unfold NB; trivial
 | .rref _ _ _ _ _ _ _, _ => by unfold AV.shift; unfold NB; trivial
 | .vw _ _ _ _ _ _ _, _ => by unfold AV.shift; unfold NB; trivial
 | .fp _, _ => by unfold AV.shift; unfold NB; trivial
 | .fn _ _, _ => by unfold AV.shift; unfold NB; trivial
 | .und, _ => by unfold AV.shift; unfold NB; trivial
 | .unk, _ => by unfold AV.shift; unfold NB; trivial
theorem NBs.shift {m : Nat} (hm : m ≤ 16) : ∀ {l : List AV}, NBs (· < m) l → NBs (Un U nm) (shifts nm l)
 | [], _ => by unfold shifts; unfold NBs; trivial
 | x :: l, hn => by unfold NBs at hn; unfold shifts; unfold NBs; exact ⟨NB.shift hm hn.1, NBs.shift hm hn.2⟩
end

theorem exec_call {o : Oper} {ρ : Operand → Value} {f : Nat} {c : Operand} {cs : Array Value} {args : Array Operand} {ts : Array TypeId} (ho : o.op = .call { callee := .value c, args := args, argTypes := ts }) (hρ : ρ c = .func (.func f) #[] cs)
  (hc : ∀ args w, (callFunc f args).run P w = .ok (.enter f args) w) : (execOp ρ o).run P w = .ok (.enter f (args.map ρ ++ cs)) w := by
 unfold execOp
 simp only [ho, resolve, hρ, Deferred.ofValue, Sem.run_bind, Sem.run_pure, Result.andThen_ok, Array.empty_append, invoke, hc]

theorem RD.nz {F : Nat → Prop} {w : World} (sh : List (Option Nat)) {d : D} {v : Value} (h : RD F w d v) : RD F w (nzD sh d) v := by
 unfold nzD
 split
 ·unfold RD at h ⊢
  obtain ⟨cs, h1, h2⟩ := h
  exact ⟨cs, h1, RC.nz sh _ _ h2⟩
 ·split
  ·unfold RD at h ⊢
   exact ⟨none, 0, h.1, Nat.le_refl _, by unfold maxLen; omega, fun _ => rfl, .inl rfl⟩
  ·exact h
 ·exact h
theorem RArgs.nz {κ : Kap} {F : Nat → Prop} {w : World} {ty : TypeId → Option TyE} : ∀ (ls : List Pt) (ts : List TypeId) (ds : List D) (k : Nat) (vs : List Value), RVs κ F w (headAV ls ds k) vs → RVs κ F w (headAV ls (nzL ty ls ts ds) k) vs
 | [], ts, ds, k, vs, h => by unfold headAV at h ⊢; exact h
 | p :: ls, [], ds, k, vs, h => by cases p <;> (unfold nzL; exact h)
 | p :: ls, t :: ts, [], k, vs, h => by cases p <;> (unfold nzL; exact h)
 | p :: ls, t :: ts, d :: ds, k, vs, h => by
  unfold headAV RVs at h
  obtain ⟨u, us', rfl, h1, h2⟩ := h
  have ih := RArgs.nz (ty := ty) ls ts ds (k + p.n) us' h2
  cases p with
  | rd =>
   unfold nzL headAV RVs
   refine ⟨u, us', rfl, ?_, ih⟩
   unfold ptAV RV at h1 ⊢
   exact h1.nz _
  | _ =>
   unfold nzL headAV RVs
   exact ⟨u, us', rfl, h1, ih⟩

theorem RVs.map_ap {ρ : Operand → Value} {e : Operand → AV} (he : ∀ x, RV κ F w (e x) (ρ x)) {l : List AV} {us : List Value} (h : RVs κ F w l us) : ∀ (xs : List Operand), RVs κ F w (xs.map e ++ l) (xs.map ρ ++ us)
 | [] => h
 | x :: xs => by
  simp only [List.map_cons, List.cons_append]
  unfold RVs
  exact ⟨_, _, rfl, he x, RVs.map_ap he h xs⟩

theorem sound_call (hΓ : ∀ f S, Γ f = some S → FnOK P cx.J f S) (h : ORel cx κ F w U σ) (hf : ∀ j, j < 16 → ¬ U (nm + j)) {o : Oper} {ρ : Operand → Value} {e : Operand → AV} (he : ∀ x, RV κ F w (e x) (ρ x)) {c : Operand} {f : Nat} {caps : List AV} {args : Array Operand} {ts : Array TypeId}
  (ho : o.op = .call { callee := .value c, args := args, argTypes := ts }) (hcv : e c = .fn f caps) : Sound P cx κ F w U nm σ o ρ (callSpec ty Γ σ nm f (args.toList.map e ++ caps) ts.toList) := by
 unfold callSpec
 split
 ·intro hp; exact hp.elim
 ·rename_i S hS
  obtain ⟨hc, hok⟩ := hΓ f S hS
  split
  ·intro hp; exact hp.elim
  ·rename_i ds ns_ rd_ hargs'
   obtain ⟨⟨ds0, ns, rd⟩, hargs, hargs2⟩ := Option.map_eq_some_iff.1 hargs'
   simp only [Prod.mk.injEq] at hargs2
   obtain ⟨hds, rfl, rfl⟩ := hargs2
   split
   ·intro hp; exact hp.elim
   ·rename_i obs hobs
    intro hp
    obtain ⟨p0, p1, p2, p3, p5, p4⟩ := (show _ ∧ _ ∧ _ ∧ _ ∧ _ ∧ _ from hp)
    have hcv2 := he c
    rw [hcv] at hcv2
    unfold RV at hcv2
    obtain ⟨cs, hρ, hcaps⟩ := hcv2
    obtain ⟨hol, hoj⟩ := objsOf_some hobs
    have hns : ∀ (j : Nat) (n : Nat), ns[j]? = some n → j < ns.length := fun j n hj => (List.getElem?_eq_some_iff.1 hj).1
    have hget : ∀ (j : Nat) (x : Obj'), obs[j]? = some x → ∃ n y, ns[j]? = some n ∧ σ n = some y ∧ x = (y.ren (ixN ns)).regen 0 := fun j x hj => by
     have hlt := (List.getElem?_eq_some_iff.1 hj).1
     have hj' : ns[j]? = some (ns[j]'(by omega)) := List.getElem?_eq_getElem (by omega)
     obtain ⟨y, hy, hσ⟩ := hoj j _ hj'
     rw [hj] at hy; cases hy
     exact ⟨_, y, hj', hσ, rfl⟩
    -- the callee's view
    let Fc : Nat → Prop := fun b => F b ∨ ∃ o ∈ rd, ∃ x, σ o = some x ∧ Blk κ o x b
    let κc : Kap := fun j => tk κ σ (ns.getD j 0)
    have hκc : ∀ j n, ns[j]? = some n → κc j = tk κ σ n := fun j n hj => by
     show tk κ σ (ns.getD j 0) = tk κ σ n
     rw [List.getD_eq_getElem?_getD, hj]; rfl
    have hκi : ∀ o, ixN ns o < obs.length → (κc (ixN ns o)).v = (κ o).v := fun o ho => by
     rw [hκc _ o (ixN_at (by omega)), tk_v]
    have hlive := args_live S.lend _ ds0 ns rd hargs
    have hFsub : ∀ b, F b → Fc b := fun b hb => .inl hb
    have hFcl : ∀ b, Fc b → b < w.heap.size := fun b hb => by
     rcases hb with hb | ⟨o', ho', x, hx, hb⟩
     ·exact (h.fG b hb).2
     ·exact blk_lt h hx hb
    have hro : RNew κc Fc w (fun b => b < w.heap.size ∧ ¬ Fc b) obs := by
     refine ⟨fun j x hj => ?_, fun j x hj b hb => ?_, fun i x j y hi hj hne b hb hb' => ?_⟩
     ·obtain ⟨n, y, hn, hσ, rfl⟩ := hget j x hj
      have hnb := p5 _ (List.mem_of_getElem? hj)
      exact ⟨ObjOK.named hσ hnb (hκc j n hn) hκi hFsub (h.ok n y hσ), hnb⟩
     ·obtain ⟨n, y, hn, hσ, rfl⟩ := hget j x hj
      have hb := hb.named hσ (hκc j n hn)
      refine ⟨blk_lt h hσ hb, fun hFb => ?_⟩
      rcases hFb with hFb | ⟨o', ho', z, hz, hb'⟩
      ·exact (h.free n y hσ b hb).1 hFb
      ·exact h.apart n y o' z hσ hz (fun e' => p3 n (List.mem_of_getElem? hn) (e' ▸ ho')) b hb hb'
     ·obtain ⟨n, x', hn, hσ, rfl⟩ := hget i x hi
      obtain ⟨m, y', hm, hσ', rfl⟩ := hget j y hj
      have hb := hb.named hσ (hκc i n hn)
      have hb' := hb'.named hσ' (hκc j m hm)
      refine h.apart n x' m y' hσ hσ' (fun e' => hne ?_) b hb hb'
      have h1 := hns i n hn
      have h2 := hns j m hm
      have := (List.getElem_inj (h₀ := h1) (h₁ := h2) p2).1 (by
       rw [(List.getElem?_eq_some_iff.1 hn).2, (List.getElem?_eq_some_iff.1 hm).2]; exact e')
      exact this
    have hra0 := args_some (F' := Fc) (κc := κc) h hFsub S.lend _ _ ds0 ns rd 0 hargs p0 (fun o' ho' x hx b hb => .inr ⟨o', ho', x, hx, hb⟩) (fun j n hj => by rw [Nat.zero_add, hκc j n hj, tk_v]) (RVs.map_ap he hcaps args.toList)
    have hra := RArgs.nz (ty := ty) S.lend ts.toList ds0 0 _ hra0
    rw [hds] at hra
    have hcall := hok (args.toList.map ρ ++ cs) w Fc ds obs κc p1 hra hFcl (h.inv.mono hFsub (fun _ _ => rfl)) hro
    unfold Out
    rw [exec_call ho hρ hc]
    simp only []
    have hargs2 : args.map ρ ++ cs.toArray = (args.toList.map ρ ++ cs).toArray := by apply Array.ext'; simp
    rw [hargs2]
    refine Calls.mono hcall ?_
    rintro e' w' ⟨v, rfl, r, new, obs', κ', κl, F', ret⟩
    refine ⟨v, rfl, ?_⟩
    obtain ⟨few, _, _, same, hflat⟩ := p4 r new obs' ret.post
    let F2 : Nat → Prop := fun b => F b ∨ (F' b ∧ (Lent κc obs b ∨ w.heap.size ≤ b))
    let κ2 : Kap := fun n => if nm ≤ n ∧ n < nm + 16 then (if n < nm + new.length then κ' (n - nm) else κl (n - (nm + new.length))) else κ n
    have hk2n : ∀ j, j < new.length → κ2 (nm + j) = κ' j := fun j hj => by
     show (if nm ≤ nm + j ∧ nm + j < nm + 16 then (if nm + j < nm + new.length then κ' (nm + j - nm) else κl (nm + j - (nm + new.length))) else κ (nm + j)) = κ' j
     rw [if_pos (by omega), if_pos (by omega), Nat.add_sub_cancel_left]
    have hk2l : ∀ j, j < obs.length → κ2 (nm + new.length + j) = κl j := fun j hj => by
     show (if nm ≤ nm + new.length + j ∧ nm + new.length + j < nm + 16 then (if nm + new.length + j < nm + new.length then κ' (nm + new.length + j - nm) else κl (nm + new.length + j - (nm + new.length))) else κ (nm + new.length + j)) = κl j
     rw [if_pos (by omega), if_neg (by omega), Nat.add_sub_cancel_left]
    have hk2o : ∀ n, U n → κ2 n = κ n := fun n hn => by
     show (if nm ≤ n ∧ n < nm + 16 then (if n < nm + new.length then κ' (n - nm) else κl (n - (nm + new.length))) else κ n) = κ n
     rw [if_neg]
     rintro ⟨g1, g2⟩
     exact hf (n - nm) (by omega) (by rw [show nm + (n - nm) = n from by omega]; exact hn)
    have hnsU : ∀ n, n ∈ ns → ∃ x, σ n = some x := fun n hn => by
     obtain ⟨j, hj⟩ := List.getElem?_of_mem hn
     obtain ⟨x, _, hx⟩ := hoj j n hj
     exact ⟨x, hx⟩
    have hF2 : (∀ b, F' b → F2 b) ∨ (FlatAV r ∧ (∀ x ∈ new, FlatObj x) ∧ ∀ x ∈ obs', FlatObj x) := by
     rcases hflat with hrd | hfl
     ·refine .inl fun b hb => ?_
      rcases ret.fr' b hb with hb' | hb'
      ·rcases hb' with hb' | ⟨o', ho', _⟩
       ·exact .inl hb'
       ·rw [hrd] at ho'; cases ho'
      ·exact .inr ⟨hb, hb'⟩
     ·exact .inr hfl
    have hσ2 : ∀ n y, app (lentObjs (nm + new.length) ns obs' ++ newObjs nm new) σ n = some y → (∃ j x, n = nm + j ∧ new[j]? = some x ∧ y = (x.ren (fun j => nm + j)).regen n) ∨ (∃ (j : Nat) (x : Obj'), ns[j]? = some n ∧ obs'[j]? = some x ∧ y = (x.ren (fun j => ns.getD j 0)).regen (nm + new.length + j)) ∨ (n ∉ ns ∧ σ n = some y) := by
     intro n y hy
     rw [app_append, app_newObjs] at hy
     split at hy
     ·rename_i hr
      obtain ⟨x, hx, hxy⟩ := Option.map_eq_some_iff.1 hy
      exact .inl ⟨n - nm, x, by omega, hx, hxy.symm⟩
     ·obtain ⟨g1, g2⟩ := app_lentObjs ns obs' (nm + new.length) σ n p2 (by omega)
      by_cases hn : n ∈ ns
      ·obtain ⟨j, hj⟩ := List.getElem?_of_mem hn
       rw [g1 j hj] at hy
       obtain ⟨x, hx, hxy⟩ := Option.map_eq_some_iff.1 hy
       exact .inr (.inl ⟨j, x, hj, hx, hxy.symm⟩)
      ·rw [g2 hn] at hy
       exact .inr (.inr ⟨hn, hy⟩)
    -- blocks of what is not lent stay
    have hstay : ∀ b, b < w.heap.size → ¬ Lent κc obs b → w'.heap[b]? = w.heap[b]? := fun b hb hl => ret.wx.block b ⟨hb, hl⟩
    have hlent : ∀ b, Lent κc obs b → ∃ n x, n ∈ ns ∧ σ n = some x ∧ Blk κ n x b := by
     rintro b ⟨j, x, hj, hb⟩
     obtain ⟨n, y, hn, hσ, rfl⟩ := hget j x hj
     exact ⟨n, y, List.mem_of_getElem? hn, hσ, hb.named hσ (hκc j n hn)⟩
    have hFw : ∀ b, F b → w'.heap[b]? = w.heap[b]? := fun b hb => hstay b (h.fG b hb).2 fun hl => by
     obtain ⟨n, x, _, hσ, hb'⟩ := hlent b hl
     exact (h.free n x hσ b hb').1 hb
    have hother : ∀ n y, n ∉ ns → σ n = some y → ∀ b, Blk κ n y b → w'.heap[b]? = w.heap[b]? := fun n y hn hy b hb => hstay b (blk_lt h hy hb) fun hl => by
     obtain ⟨m, x, hm, hσ, hb'⟩ := hlent b hl
     exact h.apart n y m x hy hσ (fun e' => hn (e' ▸ hm)) b hb hb'
    have hlo : ∀ n y, n ∉ ns → σ n = some y → ∀ b, Blk κ n y b → ¬ Lent κc obs b := fun n y hn hy b hb hl => by
     obtain ⟨m, z, hm, hσ, hb'⟩ := hlent b hl
     exact h.apart n y m z hy hσ (fun e' => hn (e' ▸ hm)) b hb hb'
    have hlv : ∀ (j n : Nat) (x : Obj'), ns[j]? = some n → obs'[j]? = some x → (κ2 n).v = (κl j).v ∧ (κ2 (nm + new.length + j)).r = (κl j).r := fun j n x hj hx => by
     obtain ⟨y, hy⟩ := hnsU n (List.mem_of_getElem? hj)
     have hjl := (List.getElem?_eq_some_iff.1 hx).1
     rw [hk2o n (h.nb n y hy).1, ret.lv j hjl, hκc j n hj, tk_v, hk2l j (by omega)]
     exact ⟨rfl, rfl⟩
    have hfl : ∀ j, j < obs'.length → (κ2 (ns.getD j 0)).v = (κl j).v := fun j hj => by
     have hjn : j < ns.length := by omega
     have e1 : ns[j]? = some (ns[j]'hjn) := List.getElem?_eq_getElem hjn
     have e2 : ns.getD j 0 = ns[j]'hjn := by rw [List.getD_eq_getElem?_getD, e1]; rfl
     rw [e2]
     exact (hlv j _ _ e1 (List.getElem?_eq_getElem hj)).1
    -- the blocks of the objects behind the call
    have hblk : ∀ n y, app (lentObjs (nm + new.length) ns obs' ++ newObjs nm new) σ n = some y → ∀ b, Blk κ2 n y b →
      (∃ j x, n = nm + j ∧ new[j]? = some x ∧ Blk κ' j (x.regen j) b ∧ (Lent κc obs b ∨ w.heap.size ≤ b) ∧ ¬ F' b) ∨
      (∃ (j : Nat) (x : Obj'), ns[j]? = some n ∧ obs'[j]? = some x ∧ Blk κl j (x.regen j) b ∧ (Lent κc obs b ∨ w.heap.size ≤ b) ∧ ¬ F' b) ∨ (n ∉ ns ∧ σ n = some y ∧ Blk κ n y b ∧ b < w.heap.size) := by
     intro n y hy b hb
     rcases hσ2 n y hy with ⟨j, x, rfl, hj, rfl⟩ | ⟨j, x, hj, hx, rfl⟩ | ⟨hn, hσn⟩
     ·have hlt := (List.getElem?_eq_some_iff.1 hj).1
      have hb : Blk κ' j (x.regen j) b := Blk.turnL (by rw [hk2n j hlt]) (by rw [hk2n j hlt]) hb
      have := ret.new.blk j x hj b hb
      exact .inl ⟨j, x, rfl, hj, hb, this.1, this.2⟩
     ·obtain ⟨e1, e2⟩ := hlv j n x hj hx
      have hb : Blk κl j (x.regen j) b := Blk.turnL e1 e2 hb
      have := ret.lent.blk j x hx b hb
      exact .inr (.inl ⟨j, x, hj, hx, hb, this.1, this.2⟩)
     ·have hb := hb.kap hk2o (h.nb n y hσn).1 (h.nb n y hσn).2
      exact .inr (.inr ⟨hn, hσn, hb, blk_lt h hσn hb⟩)
    have hsz := ret.wx.size
    refine ⟨r.shift nm, _, κ2, F2, ⟨r, new, obs', ret.post, rfl, rfl⟩, ?_, ?_, NB.shift (by omega) ret.nb⟩
    ·refine ⟨hk2o, fun b hb => .inl hb, ⟨ret.wx.os, ret.wx.tape, ret.wx.output, hsz, fun b hb => ?_⟩, fun _ ho => un_sub ho, ?_⟩
     ·rcases hb with hb | hb
      ·exact hFw b hb
      ·refine hstay b (Nat.lt_of_lt_of_le (h.kB b hb) h.bs) fun hl => ?_
       obtain ⟨n, x, _, hσ, hb'⟩ := hlent b hl
       exact (h.free n x hσ b hb').2.1 hb
     ·refine ⟨fun n y hy => ?_, fun n y hy => ?_, fun n y hy b hb => ?_, fun n y n' y' hy hy' hne b hb hb' => ?_, fun b hb => ?_, h.kB, h.gB, Nat.le_trans h.bs hsz, h.inv.mono (fun b hb => .inl hb) hFw, fun j hj => ⟨un_sub (h.lt j hj).1, by rw [hk2o j (h.lt j hj).1]; exact (h.lt j hj).2⟩⟩
      ·rcases hσ2 n y hy with ⟨j, x, rfl, hj, rfl⟩ | ⟨j, x, hj, hx, rfl⟩ | ⟨hn, hσn⟩
       ·have hlt := (List.getElem?_eq_some_iff.1 hj).1
        obtain ⟨g1, g2⟩ := ret.new.ok j x hj
        exact ObjOK.turnL (by rw [hk2n j hlt]) (by rw [hk2n j hlt]) g2 (fun i hi => by rw [hk2n i hi]) (hF2.imp id fun hfl => hfl.2.1 x (List.mem_of_getElem? hj)) g1
       ·obtain ⟨e1, e2⟩ := hlv j n x hj hx
        obtain ⟨g1, g2⟩ := ret.lent.ok j x hx
        exact ObjOK.turnL e1 e2 g2 hfl (hF2.imp id fun hfl => hfl.2.2 x (List.mem_of_getElem? hx)) g1
       ·have hu := h.nb n y hσn
        exact ObjOK.mono hk2o (fun b hb => .inl hb) hFw hu.1 hu.2 (hother n y hn hσn) (h.ok n y hσn)
      ·rcases hσ2 n y hy with ⟨j, x, rfl, hj, rfl⟩ | ⟨j, x, hj, hx, rfl⟩ | ⟨hn, hσn⟩
       ·have hlt := (List.getElem?_eq_some_iff.1 hj).1
        have hun : Un U nm (nm + j) := .inr ⟨by omega, by omega⟩
        exact ⟨hun, NBl.nbo hun (fun i hi => .inr ⟨by omega, by omega⟩) (ret.new.ok j x hj).2⟩
       ·obtain ⟨z, hz⟩ := hnsU n (List.mem_of_getElem? hj)
        have hjl := (List.getElem?_eq_some_iff.1 hx).1
        exact ⟨un_sub (h.nb n z hz).1, NBl.nbo (.inr ⟨by omega, by omega⟩) (fun i hi => by
         have hin : i < ns.length := by omega
         have e1 : ns.getD i 0 = ns[i]'hin := by rw [List.getD_eq_getElem?_getD, List.getElem?_eq_getElem hin]; rfl
         obtain ⟨z', hz'⟩ := hnsU (ns.getD i 0) (by rw [e1]; exact List.getElem_mem hin)
         exact un_sub (h.nb _ z' hz').1) (ret.lent.ok j x hx).2⟩
       ·have hu := h.nb n y hσn
        exact ⟨un_sub hu.1, NBo.mono (fun _ ho => un_sub ho) hu.2⟩
      ·have ln : (Lent κc obs b ∨ w.heap.size ≤ b) → ¬ F' b → ¬ F2 b ∧ ¬ cx.K b ∧ cx.G b := by
        intro g1 g2
        rcases g1 with g1 | g1
        ·obtain ⟨m, z, _, hσ, hb'⟩ := hlent b g1
         have := h.free m z hσ b hb'
         refine ⟨fun hF => ?_, this.2⟩
         rcases hF with hF | hF
         ·exact this.1 hF
         ·exact g2 hF.1
        ·refine ⟨fun hF => ?_, fun hK => ?_, h.gB _ (Nat.le_trans h.bs g1)⟩
         ·rcases hF with hF | hF
          ·have := (h.fG b hF).2; omega
          ·exact g2 hF.1
         ·have := h.kB b hK; have := h.bs; omega
       rcases hblk n y hy b hb with ⟨j, _, _, _, _, g1, g2⟩ | ⟨j, _, _, _, _, g1, g2⟩ | ⟨hn, hx, hb', hlt⟩
       ·exact ln g1 g2
       ·exact ln g1 g2
       ·have := h.free n y hx b hb'
        refine ⟨fun hF => ?_, this.2⟩
        rcases hF with hF | ⟨_, hF | hF⟩
        ·exact this.1 hF
        ·exact hlo n y hn hx b hb' hF
        ·omega
      ·have lo : ∀ n y, n ∉ ns → σ n = some y → Blk κ n y b → b < w.heap.size → (Lent κc obs b ∨ w.heap.size ≤ b) → False := by
        intro n y hn hy hb hlt hl
        rcases hl with hl | hl
        ·exact hlo n y hn hy b hb hl
        ·omega
       rcases hblk n y hy b hb with ⟨j, z, e1, hj, g0, g1, g2⟩ | ⟨j, z, hj, hz, g0, g1, g2⟩ | ⟨hn, hx, g0, hlt⟩
       ·rcases hblk n' y' hy' b hb' with ⟨j', z', e1', hj', g0', g1', g2'⟩ | ⟨j', z', hj', hz', g0', g1', g2'⟩ | ⟨hn', hx', g0', hlt'⟩
        ·exact ret.new.apart j z j' z' hj hj' (fun e' => hne (by rw [e1, e1', e'])) b g0 g0'
        ·exact ret.apart j' z' j z hz' hj b g0' g0
        ·exact lo n' y' hn' hx' g0' hlt' g1
       ·rcases hblk n' y' hy' b hb' with ⟨j', z', e1', hj', g0', g1', g2'⟩ | ⟨j', z', hj', hz', g0', g1', g2'⟩ | ⟨hn', hx', g0', hlt'⟩
        ·exact ret.apart j z j' z' hz hj' b g0 g0'
        ·exact ret.lent.apart j z j' z' hz hz' (fun e' => hne (by subst e'; rw [hj] at hj'; cases hj'; rfl)) b g0 g0'
        ·exact lo n' y' hn' hx' g0' hlt' g1
       ·rcases hblk n' y' hy' b hb' with ⟨j', z', e1', hj', g0', g1', g2'⟩ | ⟨j', z', hj', hz', g0', g1', g2'⟩ | ⟨hn', hx', g0', hlt'⟩
        ·exact lo n y hn hx g0 hlt g1'
        ·exact lo n y hn hx g0 hlt g1'
        ·exact h.apart n y n' y' hx hx' hne b g0 g0'
      ·rcases hb with hb | hb
       ·exact ⟨(h.fG b hb).1, Nat.lt_of_lt_of_le (h.fG b hb).2 hsz⟩
       ·refine ⟨?_, ret.flt b hb.1⟩
        rcases hb.2 with g1 | g1
        ·obtain ⟨m, z, _, hσ, hb'⟩ := hlent b g1
         exact (h.free m z hσ b hb').2.2
        ·exact h.gB b (Nat.le_trans h.bs g1)
    ·refine RV.shift (m := new.length) (fun j hj => hk2n j hj) ret.nb ?_
     rcases hF2 with hF2 | hfl
     ·exact RV.mono (U := (· < new.length)) (fun _ _ => rfl) hF2 (fun _ _ => rfl) ret.nb ret.rv
     ·exact RV.flat hfl.1 ret.rv

end
end Go.Ab
