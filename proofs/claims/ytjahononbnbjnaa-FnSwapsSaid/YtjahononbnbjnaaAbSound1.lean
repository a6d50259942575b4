/- My own layer, fourth part: single operations: what they leave. -/
import Derived.Test.YtjahononbnbjnaaAbOk
import Derived.Laws.AppendOwnNone
namespace Go.Ab
set_option linter.unusedVariables false
set_option linter.unusedSimpArgs false

def Out (P : Program) (o : Oper) (ρ : Operand → Value) (w : World) (R : Value → World → Prop) : Prop :=
 match (execOp ρ o).run P w with
 | .ok (.value v) w' => R v w'
 | .ok .skip w' => R undef w'
 | .ok (.enter f args) w' => Calls P f args w' fun e w'' => ∃ v, e = .returned v ∧ R v w''
 | _ => False

theorem Out.wp {P : Program} {o : Oper} {a : Act} {w : World} {R : Value → World → Prop} {next : Act → World → Prop} {Q : Exit → Act → World → Prop}
  (h : Out P o a.eval w R) (hn : ∀ v w', R v w' → next (a.put o.dst v) w') : o.wp P a w next Q := by
 unfold Out at h
 unfold Oper.wp
 generalize (execOp a.eval o).run P w = r at *
 cases r with
 | halt x w' => exact h.elim
 | ok n w' =>
  cases n
  case value v => exact hn _ _ h
  case skip => exact hn _ _ h
  case enter f args =>
   simp only [Oper.upon]
   refine Calls.mono h ?_
   rintro e w'' ⟨v, rfl, hR⟩
   exact hn _ _ hR
  all_goals exact h.elim

def Un (U : Nat → Prop) (nm : Nat) : Nat → Prop := fun n => U n ∨ (nm ≤ n ∧ n < nm + 16)

def SR (cx : Cx) (κ : Kap) (F : Nat → Prop) (w : World) (U : Nat → Prop) (nm : Nat) (σ : Objs) (s : Spec) (v : Value) (w' : World) : Prop :=
 ∃ av δ κ' F', s.R av δ ∧ Aft cx κ F w U κ' F' w' (Un U nm) (app δ σ) ∧ RV κ' F' w' av v ∧ NB (Un U nm) av

section
variable {P : Program} {cx : Cx} {κ : Kap} {F : Nat → Prop} {w : World} {U : Nat → Prop} {nm : Nat} {σ : Objs}

theorem un_sub {o : Nat} (h : U o) : Un U nm o := .inl h

theorem NBo.mono {U U' : Nat → Prop} (h : ∀ o, U o → U' o) {x : Obj'} (hx : NBo U x) : NBo U' x := by
 cases x with
 | box T l => exact NBs.mono h hx
 | arr e es l => trivial
 | mp t l => trivial
 | bld T E l g => exact h g hx
 | tab e es mask l g hole => exact h g hx

theorem ORel.un {U' : Nat → Prop} (hU : ∀ o, U o → U' o) (h : ORel cx κ F w U σ) : ORel cx κ F w U' σ :=
 ⟨h.ok, fun o x hx => ⟨hU o (h.nb o x hx).1, NBo.mono hU (h.nb o x hx).2⟩, h.free, h.apart, h.fG, h.kB, h.gB, h.bs, h.inv, fun j hj => ⟨hU j (h.lt j hj).1, (h.lt j hj).2⟩⟩

theorem Aft.same (h : ORel cx κ F w U σ) : Aft cx κ F w U κ F w (Un U nm) σ :=
 ⟨fun _ _ => rfl, fun _ h => h, Wx.refl _ _, fun _ h => un_sub h, h.un fun _ h => un_sub h⟩

theorem sr_same (h : ORel cx κ F w U σ) {p : Prop} {rd : List Nat} {av : AV} {v : Value} (hv : RV κ F w av v) (hn : NB U av) : SR cx κ F w U nm σ (.det p rd av []) v w :=
 ⟨av, [], κ, F, ⟨rfl, rfl⟩, Aft.same h, hv, NB.mono (fun _ h => un_sub h) hn⟩

theorem out_val {o : Oper} {ρ : Operand → Value} {R : Value → World → Prop} {v : Value} {w' : World} (h : (execOp ρ o).run P w = .ok (.value v) w') (hr : R v w') : Out P o ρ w R := by
 unfold Out; rw [h]; exact hr
theorem out_skip {o : Oper} {ρ : Operand → Value} {R : Value → World → Prop} {w' : World} (h : (execOp ρ o).run P w = .ok .skip w') (hr : R undef w') : Out P o ρ w R := by
 unfold Out; rw [h]; exact hr

theorem exec_v (s : Sem Value) {v : Value} {w' : World} (h : s.run P w = .ok v w') : (do pure (.value (← s)) : Sem Next).run P w = .ok (.value v) w' := by
 simp only [Sem.run_bind, h, Result.andThen_ok, Sem.run_pure]
theorem exec_u (s : Sem Unit) {w' : World} (h : s.run P w = .ok () w') : (do s; pure .skip : Sem Next).run P w = .ok .skip w' := by
 simp only [Sem.run_bind, h, Result.andThen_ok, Sem.run_pure]

theorem heap_lt {b : Nat} {o : Obj} (h : w.heap[b]? = some o) : b < w.heap.size := (Array.getElem?_eq_some_iff.1 h).1

theorem arr_lt {e : TypeId} {es : Nat} {u : Value} {l : List D} (h : ArrOK F w e es u l) {b : Nat} (hb : blk u = some b) : b < w.heap.size := by
 obtain ⟨us, ⟨_, h1 | ⟨g, off, cap, cur, h1, h2, _⟩⟩, _⟩ := h
 ·rw [h1.1] at hb; simp [blk] at hb
 ·rw [h1] at hb; simp [blk] at hb; subst hb
  obtain ⟨_, _, h3, _⟩ := h2; exact heap_lt h3

theorem ArrOK.mono {F' : Nat → Prop} {w' : World} {e : TypeId} {es : Nat} {u : Value} {l : List D} (hF : ∀ b, F b → F' b) (hb : ∀ b, F b → w'.heap[b]? = w.heap[b]?) (hblk : ∀ b, blk u = some b → w'.heap[b]? = w.heap[b]?)
  (h : ArrOK F w e es u l) : ArrOK F' w' e es u l := by
 obtain ⟨us, ⟨g1, g2⟩, h2, h3⟩ := h
 refine ⟨us, ⟨g1, ?_⟩, RE.mono hF hb h2, h3⟩
 rcases g2 with g2 | ⟨g, off, cap, cur, k1, k3, k4⟩
 ·exact .inl g2
 ·exact .inr ⟨g, off, cap, cur, k1, k3.keep (hblk g (by rw [k1]; rfl)), k4⟩

theorem TabOK.row {e : TypeId} {es : Nat} {mask : List (Option TypeId)} {l : List D} {u : Value} {r : Nat → Nat → Value} {hole : Option (Nat × Nat)} (h : TabOK F w e es mask l u r hole) {k j : Nat} (hr : isRow mask l.length hole k j) :
  ∃ d e' es' rows, l[k]? = some d ∧ maskAt mask j = some e' ∧ d.cells[j]? = some (.sl es' rows) ∧ ArrOK F w e' es' (r k j) rows := by
 obtain ⟨h1, h2, h3⟩ := hr
 obtain ⟨us, _, _, hc⟩ := h.mem
 have hk : l[k]? = some l[k] := List.getElem?_eq_getElem h1
 have hlen := h.cells k _ hk
 obtain ⟨e', he⟩ := Option.isSome_iff_exists.1 h2
 have hj : j < mask.length := by
  rcases Nat.lt_or_ge j mask.length with hj | hj
  ·exact hj
  ·unfold maskAt at he
   rw [List.getElem?_eq_none hj] at he; cases he
 have hj' : j < l[k].cells.length := by have := h.mlen; omega
 obtain ⟨x, _, _, hx⟩ := hc k _ j _ hk (List.getElem?_eq_getElem hj')
 rw [he] at hx
 rcases hx with ⟨hx, hh | ⟨es', rows, hd, ha⟩⟩
 ·exact absurd hh h3
 ·subst hx
  exact ⟨_, e', es', rows, hk, he, by rw [List.getElem?_eq_getElem hj', hd], ha⟩

theorem TabOK.mono {F' : Nat → Prop} {w' : World} {e : TypeId} {es : Nat} {mask : List (Option TypeId)} {l : List D} {u : Value} {r : Nat → Nat → Value} {hole : Option (Nat × Nat)} (hF : ∀ b, F b → F' b) (hb : ∀ b, F b → w'.heap[b]? = w.heap[b]?)
  (hblk : ∀ b, blk u = some b → w'.heap[b]? = w.heap[b]?) (hrow : ∀ k j, isRow mask l.length hole k j → ∀ b, blk (r k j) = some b → w'.heap[b]? = w.heap[b]?) (h : TabOK F w e es mask l u r hole) : TabOK F' w' e es mask l u r hole := by
 obtain ⟨us, ⟨g1, g2⟩, hl, hc⟩ := h.mem
 refine ⟨h.pos, h.mlen, h.cells, ⟨us, ⟨g1, ?_⟩, hl, fun k d j c hk hd => ?_⟩, h.apart, h.outer⟩
 ·rcases g2 with g2 | ⟨g, off, cap, cur, k1, k3, k4⟩
  ·exact .inl g2
  ·exact .inr ⟨g, off, cap, cur, k1, k3.keep (hblk g (by rw [k1]; rfl)), k4⟩
 ·obtain ⟨x, h1, h2, h3⟩ := hc k d j c hk hd
  refine ⟨x, h1, h2, ?_⟩
  cases hm : maskAt mask j with
  | none => rw [hm] at h3; exact RD.mono hF hb h3
  | some e' =>
   rw [hm] at h3
   simp only [] at h3 ⊢
   obtain ⟨rfl, h3⟩ := h3
   refine ⟨rfl, ?_⟩
   by_cases hh : hole = some (k, j)
   ·exact .inl hh
   ·rcases h3 with h3 | ⟨es', rows, h4, h5⟩
    ·exact absurd h3 hh
    ·refine .inr ⟨es', rows, h4, ArrOK.mono hF hb (hrow k j ⟨(List.getElem?_eq_some_iff.1 hk).1, by rw [hm]; rfl, hh⟩) h5⟩

theorem blk_lt (h : ORel cx κ F w U σ) {o : Nat} {x : Obj'} (hx : σ o = some x) {b : Nat} (hb : Blk κ o x b) : b < w.heap.size := by
 have := h.ok o x hx
 cases x with
 | box T l =>
  obtain ⟨b', arr, h1, h2, _⟩ := this
  rcases hb with hb | hb
  ·rw [h1] at hb; simp [blk] at hb; subst hb
   exact heap_lt h2
  ·exact hb.elim
 | arr e es l =>
  rcases hb with hb | hb
  ·exact arr_lt this hb
  ·exact hb.elim
 | mp t l =>
  obtain ⟨b', es, clock, h1, h2, _⟩ := (show MapOK w (κ o).v l from this)
  rcases hb with hb | hb
  ·rw [h1] at hb; simp [blk] at hb; subst hb
   exact heap_lt h2
  ·exact hb.elim
 | bld T E l g =>
  obtain ⟨b', p, h1, h2, _, h4, _⟩ := (show BldOK w T E (κ o).v ((κ g).r 0 0) l from this)
  rcases hb with hb | hb
  ·rw [h1] at hb; simp [blk] at hb; subst hb
   exact heap_lt h2
  ·have hb : blk ((κ g).r 0 0) = some b := hb
   rcases h4.2 with ⟨k1, _⟩ | ⟨g', cap, cur, k1, _, k2, _⟩
   ·rw [k1] at hb; simp [blk] at hb
   ·rw [k1] at hb; simp [blk] at hb; subst hb
    exact heap_lt k2
 | tab e es mask l g hole =>
  have ht : TabOK F w e es mask l (κ o).v (κ g).r hole := this
  rcases hb with hb | ⟨k, j, hr, hb⟩
  ·obtain ⟨us, ⟨_, h1 | ⟨g, off, cap, cur, h1, h2, _⟩⟩, _⟩ := ht.mem
   ·rw [h1.1] at hb; simp [blk] at hb
   ·rw [h1] at hb; simp [blk] at hb; subst hb
    obtain ⟨_, _, h3, _⟩ := h2; exact heap_lt h3
  ·obtain ⟨_, _, _, _, _, _, _, ha⟩ := ht.row hr
   exact arr_lt ha hb

theorem MR.mono {w' : World} : ∀ {l : List ((Int × Int) × D)} {es : List MapEntry}, MR w l es → MR w' l es
 | [], _, h => h
 | (_, _) :: _, _, ⟨e, es', h1, h2, h3, h4⟩ => ⟨e, es', h1, h2, RD.mono (fun _ h => h) (fun _ h => h.elim) h3, MR.mono h4⟩
theorem ObjOK.mono {κ' : Kap} {F' : Nat → Prop} {w' : World} {o : Nat} {x : Obj'} (hκ : ∀ o, U o → κ' o = κ o) (hF : ∀ b, F b → F' b) (hb : ∀ b, F b → w'.heap[b]? = w.heap[b]?)
  (hU : U o) (hn : NBo U x) (hblk : ∀ b, Blk κ o x b → w'.heap[b]? = w.heap[b]?) (h : ObjOK κ F w o x) : ObjOK κ' F' w' o x := by
 cases x with
 | box T l =>
  obtain ⟨b, arr, h1, h2, h3⟩ := h
  exact ⟨b, arr, by rw [hκ o hU]; exact h1, by rw [hblk b (.inl (by rw [h1]; rfl))]; exact h2, RVc.mono hκ hF hb hn h3⟩
 | bld T E l g =>
  show BldOK w' T E (κ' o).v ((κ' g).r 0 0) l
  rw [hκ o hU, hκ g hn]
  obtain ⟨b, p, h1, h2, h3, h4, h5⟩ := (show BldOK w T E (κ o).v ((κ g).r 0 0) l from h)
  refine ⟨b, p, h1, by rw [hblk b (.inl (by rw [h1]; rfl))]; exact h2, h3, ⟨h4.1, ?_⟩, h5⟩
  rcases h4.2 with k1 | ⟨g', cap, cur, k1, k0, k2, k3⟩
  ·exact .inl k1
  ·exact .inr ⟨g', cap, cur, k1, k0, by rw [hblk g' (.inr (by show blk ((κ g).r 0 0) = _; rw [k1]; rfl))]; exact k2, k3⟩
 | mp t l =>
  show MapOK w' (κ' o).v l
  rw [hκ o hU]
  obtain ⟨b, es, clock, h1, h2, h3⟩ := (show MapOK w (κ o).v l from h)
  exact ⟨b, es, clock, h1, by rw [hblk b (.inl (by rw [h1]; rfl))]; exact h2, h3.mono⟩
 | arr e es l =>
  show ArrOK F' w' e es (κ' o).v l
  rw [hκ o hU]
  exact ArrOK.mono hF hb (fun b hb => hblk b (.inl hb)) h
 | tab e es mask l g hole =>
  show TabOK F' w' e es mask l (κ' o).v (κ' g).r hole
  rw [hκ o hU, hκ g hn]
  exact TabOK.mono hF hb (fun b hb => hblk b (.inl hb)) (fun k j hr b hb => hblk b (.inr ⟨k, j, hr, hb⟩)) h

theorem Blk.same {κ' : Kap} {o : Nat} {x : Obj'} {b : Nat} (ho : κ' o = κ o) (hg : ∀ e es mask l g hole, x = .tab e es mask l g hole → κ' g = κ g) (hg2 : ∀ T E l g, x = .bld T E l g → κ' g = κ g) (h : Blk κ' o x b) : Blk κ o x b := by
 unfold Blk at *
 rw [ho] at h
 rcases h with h | h
 ·exact .inl h
 ·right
  cases x with
  | tab e es mask l g hole =>
   obtain ⟨k, j, h1, h2⟩ := h
   rw [hg _ _ _ _ _ _ rfl] at h2
   exact ⟨k, j, h1, h2⟩
  | bld T E l g =>
   have h : blk ((κ' g).r 0 0) = some b := h
   rw [hg2 _ _ _ _ rfl] at h
   exact h
  | _ => exact h

theorem Blk.kap {κ' : Kap} {o : Nat} {x : Obj'} {b : Nat} (hκ : ∀ o, U o → κ' o = κ o) (hU : U o) (hn : NBo U x) (h : Blk κ' o x b) : Blk κ o x b :=
 h.same (hκ o hU) (fun e es mask l g hole e' => by subst e'; exact hκ g hn) fun T E l g e' => by subst e'; exact hκ g hn

theorem wx_alloc (K : Nat → Prop) (hK : ∀ b, K b → b < w.heap.size) (o : Obj) : Wx K w (w.alloc o) :=
 ⟨rfl, rfl, rfl, by simp, fun k hk => Go.RowKit.Below.heap_alloc w o k (hK k hk)⟩

theorem kap_new {nm : Nat} (hf : ¬ U nm) (v : KV) : ∀ o, U o → (fun n => if n = nm then v else κ n) o = κ o := by
 intro o ho
 have : o ≠ nm := fun e => hf (e ▸ ho)
 simp [this]

abbrev kv (v : Value) : KV := ⟨v, fun _ _ => undef⟩
theorem new_blk {κ' : Kap} {o : Nat} {x : Obj'} {v : Value} {s b : Nat} (hx : ∀ e es mask l g hole, x ≠ .tab e es mask l g hole) (hx2 : ∀ T E l g, x ≠ .bld T E l g) (hs : blk v = some s) (h : κ' o = kv v) (hb : Blk κ' o x b) : b = s := by
 rcases hb with hb | hb
 ·rw [h] at hb
  exact (Option.some.inj (hs.symm.trans hb)).symm
 ·cases x with
  | tab e es mask l g hole => exact absurd rfl (hx _ _ _ _ _ _)
  | bld T E l g => exact absurd rfl (hx2 _ _ _ _)
  | _ => exact hb.elim

theorem upd_same (o : Nat) (x : Option Obj') : upd σ o x o = x := by simp [upd]
theorem upd_ne {o n : Nat} (h : n ≠ o) (x : Option Obj') : upd σ o x n = σ n := by
 have : Nat.beq n o = false := by
  cases hb : Nat.beq n o with
  | true => exact absurd (Nat.eq_of_beq_eq_true hb) h
  | false => rfl
 simp [upd, this]

theorem aft_newO (h : ORel cx κ F w U σ) (hf : ¬ U nm) {x : Obj'} {ob : Obj} {v : KV} (hv : ∀ κ' b, κ' nm = v → Blk κ' nm x b → b = w.heap.size)
  (hok : ∀ κ', κ' nm = v → (∀ o, U o → κ' o = κ o) → ObjOK κ' F (w.alloc ob) nm x) (hn : NBo U x) :
  Aft cx κ F w U (fun n => if n = nm then v else κ n) F (w.alloc ob) (Un U nm) (upd σ nm (some x)) := by
 have hk := kap_new (κ := κ) hf v
 have hFw : ∀ b, F b → (w.alloc ob).heap[b]? = w.heap[b]? := fun b hb => Go.RowKit.Below.heap_alloc w _ b (h.fG b hb).2
 have hold : ∀ o y, upd σ nm (some x) o = some y → o ≠ nm → σ o = some y := fun o y hy hne => by rwa [upd_ne hne] at hy
 have hblk : ∀ o y, upd σ nm (some x) o = some y → ∀ b, Blk (fun n => if n = nm then v else κ n) o y b →
   (o = nm ∧ b = w.heap.size) ∨ (o ≠ nm ∧ σ o = some y ∧ Blk κ o y b ∧ b < w.heap.size) := fun o y hy b hb => by
  by_cases hne : o = nm
  ·subst hne; rw [upd_same] at hy; cases hy
   exact .inl ⟨rfl, hv _ b (by simp) hb⟩
  ·have hy' := hold o y hy hne
   have hu := h.nb o y hy'
   have hb' := hb.kap hk hu.1 hu.2
   exact .inr ⟨hne, hy', hb', blk_lt h hy' hb'⟩
 refine ⟨hk, fun _ hb => hb, wx_alloc _ (fun b hb => ?_) _, fun _ ho => un_sub ho, ?_, ?_, ?_, ?_, fun b hb => ⟨(h.fG b hb).1, by have := (h.fG b hb).2; simp; omega⟩, h.kB, h.gB, by have := h.bs; simp; omega, h.inv.mono (fun _ hb => hb) hFw, fun j hj => ⟨un_sub (h.lt j hj).1, (congrArg KV.v (hk j (h.lt j hj).1)).trans (h.lt j hj).2⟩⟩
 ·rcases hb with hb | hb
  ·exact (h.fG b hb).2
  ·exact Nat.lt_of_lt_of_le (h.kB b hb) h.bs
 ·intro o y hy
  by_cases hne : o = nm
  ·subst hne; rw [upd_same] at hy; cases hy
   exact hok _ (by simp) hk
  ·have hy' := hold o y hy hne
   have hu := h.nb o y hy'
   exact ObjOK.mono hk (fun _ hb => hb) hFw hu.1 hu.2 (fun b hb => Go.RowKit.Below.heap_alloc w _ b (blk_lt h hy' hb)) (h.ok o y hy')
 ·intro o y hy
  by_cases hne : o = nm
  ·subst hne; rw [upd_same] at hy; cases hy
   exact ⟨.inr ⟨Nat.le_refl _, by omega⟩, NBo.mono (fun _ ho => un_sub ho) hn⟩
  ·have hu := h.nb o y (hold o y hy hne)
   exact ⟨un_sub hu.1, NBo.mono (fun _ ho => un_sub ho) hu.2⟩
 ·intro o y hy b hb
  rcases hblk o y hy b hb with ⟨_, rfl⟩ | ⟨_, hy', hb', _⟩
  ·exact ⟨fun hF => by have := (h.fG _ hF).2; omega, fun hK => by have := h.kB _ hK; have := h.bs; omega, h.gB _ h.bs⟩
  ·exact h.free o y hy' b hb'
 ·intro o y o' y' hy hy' hne b hb hb'
  rcases hblk o y hy b hb with ⟨h1, h2⟩ | ⟨h1, g1, g2, g3⟩
  ·rcases hblk o' y' hy' b hb' with ⟨h3, h4⟩ | ⟨h3, _, _, h4⟩
   ·exact hne (h1.trans h3.symm)
   ·omega
  ·rcases hblk o' y' hy' b hb' with ⟨h3, h4⟩ | ⟨h3, g1', g2', _⟩
   ·omega
   ·exact h.apart o y o' y' g1 g1' hne b g2 g2'

theorem aft_new (h : ORel cx κ F w U σ) (hf : ¬ U nm) {x : Obj'} {c : Array Value} {e : TypeId} {v : KV} (hv : ∀ κ' b, κ' nm = v → Blk κ' nm x b → b = w.heap.size)
  (hok : ∀ κ', κ' nm = v → (∀ o, U o → κ' o = κ o) → ObjOK κ' F (w.alloc (.cells c e)) nm x) (hn : NBo U x) :
  Aft cx κ F w U (fun n => if n = nm then v else κ n) F (w.alloc (.cells c e)) (Un U nm) (upd σ nm (some x)) := aft_newO h hf hv hok hn

theorem aft_write (h : ORel cx κ F w U σ) {o : Nat} {x y : Obj'} (hx : σ o = some x) {w' : World} (hos : w'.os = w.os) (htape : w'.tape = w.tape) (hout : w'.output = w.output) (hsize : w.heap.size ≤ w'.heap.size)
  (hblock : ∀ b, b < w.heap.size → ¬ Blk κ o x b → w'.heap[b]? = w.heap[b]?) (hsub : ∀ b, Blk κ o y b → Blk κ o x b) (hok : ObjOK κ F w' o y) (hn : NBo U y) :
  Aft cx κ F w U κ F w' (Un U nm) (upd σ o (some y)) := by
 have hf : ∀ b, Blk κ o x b → ¬ F b ∧ ¬ cx.K b ∧ cx.G b := h.free o x hx
 have hFw : ∀ b, F b → w'.heap[b]? = w.heap[b]? := fun b hb => hblock b (h.fG b hb).2 fun e => (hf b e).1 hb
 have hold : ∀ o' z, upd σ o (some y) o' = some z → o' ≠ o → σ o' = some z := fun o' z hz hne => by rwa [upd_ne hne] at hz
 have hsome : ∀ o' z, upd σ o (some y) o' = some z → ∃ z', σ o' = some z' ∧ ∀ b, Blk κ o' z b → Blk κ o' z' b := fun o' z hz => by
  by_cases hne : o' = o
  ·subst hne; rw [upd_same] at hz; cases hz; exact ⟨x, hx, hsub⟩
  ·exact ⟨z, hold o' z hz hne, fun _ h => h⟩
 refine ⟨fun _ _ => rfl, fun _ hb => hb, ⟨hos, htape, hout, hsize, fun b hb => ?_⟩, fun _ ho => un_sub ho, ?_, ?_, ?_, ?_, fun b hb => ⟨(h.fG b hb).1, Nat.lt_of_lt_of_le (h.fG b hb).2 hsize⟩, h.kB, h.gB, Nat.le_trans h.bs hsize, h.inv.mono (fun _ hb => hb) hFw, fun j hj => ⟨un_sub (h.lt j hj).1, (h.lt j hj).2⟩⟩
 ·rcases hb with hb | hb
  ·exact hFw b hb
  ·exact hblock b (Nat.lt_of_lt_of_le (h.kB b hb) h.bs) fun e => (hf b e).2.1 hb
 ·intro o' z hz
  by_cases hne : o' = o
  ·subst hne; rw [upd_same] at hz; cases hz; exact hok
  ·have hz' := hold o' z hz hne
   have hu := h.nb o' z hz'
   exact ObjOK.mono (fun _ _ => rfl) (fun _ hb => hb) hFw hu.1 hu.2 (fun b hb => hblock b (blk_lt h hz' hb) fun e => h.apart o x o' z hx hz' (Ne.symm hne) b e hb) (h.ok o' z hz')
 ·intro o' z hz
  by_cases hne : o' = o
  ·subst hne; rw [upd_same] at hz; cases hz
   exact ⟨un_sub (h.nb o' x hx).1, NBo.mono (fun _ ho => un_sub ho) hn⟩
  ·have hu := h.nb o' z (hold o' z hz hne)
   exact ⟨un_sub hu.1, NBo.mono (fun _ ho => un_sub ho) hu.2⟩
 ·intro o' z hz b hb
  obtain ⟨z', hz', hs⟩ := hsome o' z hz
  exact h.free o' z' hz' b (hs b hb)
 ·intro o1 z1 o2 z2 h1 h2 hne b hb hb2
  obtain ⟨z1', h1', s1⟩ := hsome o1 z1 h1
  obtain ⟨z2', h2', s2⟩ := hsome o2 z2 h2
  exact h.apart o1 z1' o2 z2' h1' h2' hne b (s1 b hb) (s2 b hb2)

theorem sr_new {p : Prop} {rd : List Nat} {x : Obj'} {κ' : Kap} {w' : World} (h : Aft cx κ F w U κ' F w' (Un U nm) (upd σ nm (some x))) {av : AV} {v : Value} (hv : RV κ' F w' av v) (hn : NB (Un U nm) av) :
  SR cx κ F w U nm σ (.det p rd av [(nm, some x)]) v w' :=
 ⟨av, _, κ', F, ⟨rfl, rfl⟩, h, hv, hn⟩

theorem ref_nb (o i : Nat) (h : Un U nm o) : NB (Un U nm) (.ref o i) := by unfold NB; exact h
theorem own_nb (o : Nat) (h : Un U nm o) : NB (Un U nm) (.own o) := by unfold NB; exact h

theorem nm_un : Un U nm nm := .inr ⟨Nat.le_refl _, by omega⟩

theorem dats_nb : ∀ {l : List D}, NBs U (l.map .dat)
 | [] => by simp only [List.map_nil]; unfold NBs; trivial
 | d :: l => by simp only [List.map_cons]; unfold NBs; exact ⟨by unfold NB; trivial, dats_nb⟩

theorem RVc_dats {l : List D} {us : List Value} (h : RC F w l us) : RVc κ F w (l.map .dat) us := by
 induction l generalizing us with
 | nil => unfold RC at h; simp only [List.map_nil]; unfold RVc; exact h
 | cons d l ih =>
  unfold RC at h
  obtain ⟨u, us', h1, h2, h3, h4⟩ := h
  simp only [List.map_cons]
  unfold RVc
  exact ⟨u, us', h1, h2, by unfold RV; exact h3, ih h4⟩

theorem cells_one {v : Value} (h : one v = true) : v.cells = #[v] := by
 cases v <;> simp_all [one, Value.cells]

theorem RD_one {d : D} {v : Value} (h : RD F w d v) (hd : ∀ l, d ≠ .agg l) : one v = true := by
 cases d with
 | sc u => unfold RD at h; rw [h.1]; exact h.2
 | sl es l => unfold RD at h; obtain ⟨a, cap, h1, _⟩ := h; rw [h1]; rfl
 | agg l => exact absurd rfl (hd l)

theorem cells_of {x : AV} {cs : List AV} {v : Value} (hx : x.cells = some cs) (hv : RV κ F w x v) (hn : NB U x) : RVc κ F w cs v.cells.toList ∧ NBs U cs := by
 have single : ∀ {y : AV}, one v = true → RV κ F w y v → NB U y → RVc κ F w [y] v.cells.toList ∧ NBs U [y] := fun {y} h1 h2 h3 => by
  rw [cells_one h1]
  exact ⟨by unfold RVc; exact ⟨v, [], rfl, h1, h2, by unfold RVc; rfl⟩, by unfold NBs; exact ⟨h3, by unfold NBs; trivial⟩⟩
 cases x with
 | dat d =>
  cases d with
  | agg l =>
   simp only [AV.cells, Option.some.injEq] at hx
   subst hx
   unfold RV RD at hv
   obtain ⟨c, rfl, hc⟩ := hv
   exact ⟨RVc_dats hc, dats_nb⟩
  | sc u =>
   simp only [AV.cells, Option.some.injEq] at hx; subst hx
   exact single (RD_one (by unfold RV at hv; exact hv) (by simp)) hv hn
  | sl es l =>
   simp only [AV.cells, Option.some.injEq] at hx; subst hx
   exact single (RD_one (by unfold RV at hv; exact hv) (by simp)) hv hn
 | own o =>
  simp only [AV.cells, Option.some.injEq] at hx; subst hx
  have h1 := hv
  unfold RV at h1
  exact single h1.2 hv hn
 | ref o i =>
  simp only [AV.cells, Option.some.injEq] at hx; subst hx
  have h1 := hv
  unfold RV at h1
  obtain ⟨b, _, rfl⟩ := h1
  exact single rfl hv hn
 | eref o es k j =>
  simp only [AV.cells, Option.some.injEq] at hx; subst hx
  have h1 := hv
  unfold RV at h1
  obtain ⟨b, f, n, cap, _, rfl⟩ := h1
  exact single rfl hv hn
 | row o g k j =>
  simp only [AV.cells, Option.some.injEq] at hx; subst hx
  have h1 := hv
  unfold RV at h1
  exact single h1.2 hv hn
 | rref o g k j es i c =>
  simp only [AV.cells, Option.some.injEq] at hx; subst hx
  have h1 := hv
  unfold RV at h1
  obtain ⟨b, f, n, cap, _, rfl⟩ := h1
  exact single rfl hv hn
 | vw o g k j es lo n =>
  simp only [AV.cells, Option.some.injEq] at hx; subst hx
  have h1 := hv
  unfold RV at h1
  obtain ⟨a, m, cap, _, _, _, _, rfl⟩ := h1
  exact single rfl hv hn
 | fp l =>
  simp only [AV.cells, Option.some.injEq] at hx; subst hx
  have h1 := hv
  unfold RV at h1
  obtain ⟨b, off, us, rfl, _⟩ := h1
  exact single rfl hv hn
 | aggv l =>
  simp only [AV.cells, Option.some.injEq] at hx; subst hx
  unfold RV at hv; unfold NB at hn
  obtain ⟨c, rfl, hc⟩ := hv
  exact ⟨hc, hn⟩
 | tup l => simp [AV.cells] at hx
 | fn f l =>
  simp only [AV.cells, Option.some.injEq] at hx; subst hx
  have h1 := hv
  unfold RV at h1
  obtain ⟨cs, rfl, _⟩ := h1
  exact single rfl hv hn
 | und => simp [AV.cells] at hx
 | unk => simp [AV.cells] at hx

end
end Go.Ab
