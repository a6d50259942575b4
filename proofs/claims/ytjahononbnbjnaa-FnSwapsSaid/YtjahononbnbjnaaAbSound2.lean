/- My own layer, fifth part: the operations one by one. -/
import Derived.Test.YtjahononbnbjnaaAbSound1
import Derived.Laws.StructEq
namespace Go.Ab
set_option linter.unusedVariables false
set_option linter.unusedSimpArgs false
section
variable {P : Program} {cx : Cx} {κ : Kap} {F : Nat → Prop} {w : World} {U : Nat → Prop} {nm : Nat} {σ : Objs} {ty : TypeId → Option TyE} {Γ : Nat → Option FnSpec}

def Sound (P : Program) (cx : Cx) (κ : Kap) (F : Nat → Prop) (w : World) (U : Nat → Prop) (nm : Nat) (σ : Objs) (o : Oper) (ρ : Operand → Value) (s : Spec) : Prop :=
 s.pre → Out P o ρ w (SR cx κ F w U nm σ s)

theorem run_sizeOf' {t : TypeId} {x : TyE} (h : TyOK P t x) : (sizeOf t).run P w = .ok x.size w := by
 obtain ⟨_, i, h1, h2, h3, h4, _⟩ := h
 simp [sizeOf, typeInfo, h1, h2]
theorem run_zero' {t : TypeId} {x : TyE} (h : TyOK P t x) : (zeroValue t).run P w = .ok x.zero w := by
 obtain ⟨_, i, h1, h2, h3, h4, _⟩ := h
 simp [zeroValue, typeInfo, h1, h4]
theorem run_isAgg' {t : TypeId} {x : TyE} (h : TyOK P t x) : (isAgg t).run P w = .ok x.isAgg w := by
 obtain ⟨h0, _⟩ := h
 simp only [isAgg, Sem.run_bind, run_underlying h0, Result.andThen_ok]
 unfold TyE.isAgg
 cases x.desc <;> rfl

theorem run_newRow' (e : TypeId) (c : Array Value) : (newRow e c).run P w = .ok ⟨w.heap.size, 0, none⟩ (w.alloc (.cells c e)) := by
 simp [newRow, newObj, Sem.run]

theorem RVc_scs {l : List Value} (h : l.all one = true) : RVc κ F w (l.map fun v => .dat (.sc v)) l := by
 have := RVc_dats (κ := κ) (RC_scs (F := F) (w := w) h)
 rwa [List.map_map] at this

theorem scs_nb {l : List Value} : NBs U (l.map fun v => AV.dat (.sc v)) := by
 have := dats_nb (U := U) (l := l.map .sc)
 rwa [List.map_map] at this

theorem new_box (h : ORel cx κ F w U σ) (hf : ¬ U nm) {cs : List AV} {c : Array Value} {e : TypeId} (hc : RVc κ F w cs c.toList) (hn : NBs U cs) {p : Prop} {rd : List Nat} :
  SR cx κ F w U nm σ (.det p rd (.ref nm 0) [(nm, some (.box e cs))]) (.pointer (some ⟨w.heap.size, 0, none⟩)) (w.alloc (.cells c e)) := by
 have hFw : ∀ b, F b → (w.alloc (.cells c e)).heap[b]? = w.heap[b]? := fun b hb => Go.RowKit.Below.heap_alloc w _ b (h.fG b hb).2
 refine sr_new (aft_new h hf (x := .box e cs) (v := kv (.pointer (some ⟨w.heap.size, 0, none⟩))) (fun κ' b e hb => new_blk (by intros; simp) (by intros; simp) rfl e hb) ?_ hn) ?_ (ref_nb _ _ nm_un)
 ·intro κ' h1 h2
  exact ⟨w.heap.size, c, by rw [h1], heap_alloc_new w _, RVc.mono h2 (fun _ hb => hb) hFw hn hc⟩
 ·unfold RV
  exact ⟨w.heap.size, by simp, rfl⟩

theorem new_arr (h : ORel cx κ F w U σ) (hf : ¬ U nm) {ds : List D} {c : Array Value} {e eb : TypeId} {es : Nat} (hc : RE F w es ds c.toList) (hes : 0 < es) (hm : ds.length ≤ maxLen) {p : Prop} {rd : List Nat} :
  SR cx κ F w U nm σ (.det p rd (.own nm) [(nm, some (.arr e es ds))]) (.slice (some ⟨w.heap.size, 0, none⟩) ds.length ds.length) (w.alloc (.cells c eb)) := by
 have hFw : ∀ b, F b → (w.alloc (.cells c eb)).heap[b]? = w.heap[b]? := fun b hb => Go.RowKit.Below.heap_alloc w _ b (h.fG b hb).2
 refine sr_new (aft_new h hf (x := .arr e es ds) (v := kv (.slice (some ⟨w.heap.size, 0, none⟩) ds.length ds.length)) (fun κ' b e hb => new_blk (by intros; simp) (by intros; simp) rfl e hb) ?_ trivial) ?_ (own_nb _ nm_un)
 ·intro κ' h1 h2
  have hl := hc.length
  refine ⟨c.toList, ⟨hl, .inr ⟨w.heap.size, 0, ds.length, c, by rw [h1], ⟨_, _, heap_alloc_new w _, .inl rfl⟩, Nat.le_refl _, hm, by rw [← Array.length_toList, hl]; omega, ?_⟩⟩, RE.mono (fun _ hb => hb) hFw hc, hes⟩
  rw [List.drop_zero]; exact List.take_of_length_le (by omega)
 ·unfold RV
  exact ⟨by simp, rfl⟩

theorem new_arrP (h : ORel cx κ F w U σ) (hf : ¬ U nm) {ds : List D} {c : Array Value} {e eb : TypeId} {es : Nat} (hc : RE F w es ds c.toList) (hes : 0 < es) (hm : ds.length ≤ maxLen) {p : Prop} {rd : List Nat} :
  SR cx κ F w U nm σ (.det p rd (.eref nm es 0 0) [(nm, some (.arr e es ds))]) (.pointer (some ⟨w.heap.size, 0, none⟩)) (w.alloc (.cells c eb)) := by
 have hFw : ∀ b, F b → (w.alloc (.cells c eb)).heap[b]? = w.heap[b]? := fun b hb => Go.RowKit.Below.heap_alloc w _ b (h.fG b hb).2
 refine sr_new (aft_new h hf (x := .arr e es ds) (v := kv (.slice (some ⟨w.heap.size, 0, none⟩) ds.length ds.length)) (fun κ' b e hb => new_blk (by intros; simp) (by intros; simp) rfl e hb) ?_ trivial) ?_ (by unfold NB; exact nm_un)
 ·intro κ' h1 h2
  have hl := hc.length
  refine ⟨c.toList, ⟨hl, .inr ⟨w.heap.size, 0, ds.length, c, by rw [h1], ⟨_, _, heap_alloc_new w _, .inl rfl⟩, Nat.le_refl _, hm, by rw [← Array.length_toList, hl]; omega, ?_⟩⟩, RE.mono (fun _ hb => hb) hFw hc, hes⟩
  rw [List.drop_zero]; exact List.take_of_length_le (by omega)
 ·unfold RV
  exact ⟨w.heap.size, 0, ds.length, ds.length, by simp, by simp⟩

theorem chunk_re {agg : Bool} {es : Nat} : ∀ {n : Nat} {l : List Value} {ds : List D}, chunkD agg es n l = some ds → RE F w es ds l ∧ ds.length = n
 | 0, [], ds, h => by unfold chunkD at h; cases h; exact ⟨by unfold RE; rfl, rfl⟩
 | 0, _ :: _, ds, h => by unfold chunkD at h; cases h
 | n + 1, l, ds, h => by
  unfold chunkD at h
  split at h
  ·rename_i h1
   split at h
   ·rename_i d r hd hr
    cases h
    obtain ⟨g1, g2⟩ := chunk_re hr
    have hcs : d.cells = (l.take es).map .sc := by
     unfold mkD at hd
     split at hd
     ·cases hd; rfl
     ·split at hd
      ·rename_i d' he
       cases hd
       rw [he]
       cases hl : l.take es with
       | nil => rw [hl] at he; cases he
       | cons v r' =>
        rw [hl] at he
        simp only [List.map_cons, List.cons.injEq] at he
        rw [← he.1]; rfl
      ·cases hd
    refine ⟨?_, by simp [g2]⟩
    have := RE.mk (F := F) (w := w) (d := d) h1.1 (by rw [hcs]; exact RC_scs h1.2) g1
    rwa [List.take_append_drop] at this
   ·cases h
  ·cases h

theorem bigArr_re {T : TyE} {el : TypeId} {es : Nat} {ds : List D} (h : bigArr ty T = some (el, es, ds)) : RE F w es ds T.zero.cells.toList ∧ 0 < es ∧ ds.length ≤ maxLen := by
 unfold bigArr at h
 split at h
 ·split at h
  ·rename_i h1
   split at h
   ·split at h
    ·rename_i h2
     rw [Option.map_eq_some_iff] at h
     obtain ⟨ds', h3, h4⟩ := h
     cases h4
     obtain ⟨g1, g2⟩ := chunk_re (F := F) (w := w) h3
     exact ⟨g1, h2, by rw [g2]; unfold maxLen; omega⟩
    ·cases h
   ·cases h
  ·cases h
 ·cases h

theorem sound_alloc (hty : ∀ t x, ty t = some x → TyOK P t x) (h : ORel cx κ F w U σ) (hf : ¬ U nm) {o : Oper} {ρ : Operand → Value} {e : Operand → AV} {t : TypeId} (ho : o.op = .alloc t) :
  Sound P cx κ F w U nm σ o ρ (spec ty Γ σ e nm o) := by
 unfold Sound spec
 simp only [ho]
 cases hT : ty t with
 | none => intro hp; exact hp.elim
 | some T =>
  simp only []
  have run : (execOp ρ o).run P w = .ok (.value (.pointer (some ⟨w.heap.size, 0, none⟩))) (w.alloc (.cells T.zero.cells t)) := by
   unfold execOp
   simp only [ho]
   refine exec_v _ ?_
   simp only [Instr.alloc, Sem.run_bind, run_zero' (hty t T hT), Result.andThen_ok, newVar, run_newRow', Sem.run_pure]
  split
  ·rename_i el es ds hb
   intro _
   obtain ⟨g1, g2, g3⟩ := bigArr_re (F := F) (w := w) hb
   exact out_val run (new_arrP h hf g1 g2 g3)
  ·split
   ·rename_i h1
    intro _
    exact out_val run (new_box h hf (RVc_scs h1) scs_nb)
   ·intro hp; exact hp.elim

theorem sound_box (h : ORel cx κ F w U σ) (hf : ¬ U nm) {o : Oper} {ρ : Operand → Value} {e : Operand → AV} (he : ∀ x, RV κ F w (e x) (ρ x)) (hn : ∀ x, NB U (e x)) {t : TypeId} {x : Operand} (ho : o.op = .box t x) :
  Sound P cx κ F w U nm σ o ρ (spec ty Γ σ e nm o) := by
 unfold Sound spec
 simp only [ho]
 cases hc : (e x).cells with
 | none => intro hp; exact hp.elim
 | some cs =>
  intro _
  obtain ⟨h1, h2⟩ := cells_of hc (he x) (hn x)
  refine out_val (v := .pointer (some ⟨w.heap.size, 0, none⟩)) (w' := w.alloc (.cells (ρ x).cells t)) ?_ (new_box h hf h1 h2)
  unfold execOp
  simp only [ho]
  refine exec_v _ ?_
  simp only [Instr.box, Sem.run_bind, newVar, run_newRow', Result.andThen_ok, Sem.run_pure]

theorem sound_move (h : ORel cx κ F w U σ) {o : Oper} {ρ : Operand → Value} {e : Operand → AV} (he : ∀ x, RV κ F w (e x) (ρ x)) (hn : ∀ x, NB U (e x)) {x : Operand} (ho : o.op = .move x ∨ o.op = .assign x) :
  Sound P cx κ F w U nm σ o ρ (spec ty Γ σ e nm o) := by
 unfold Sound spec
 rcases ho with ho | ho <;>
 ·simp only [ho]
  intro _
  refine out_val (v := ρ x) (w' := w) ?_ (sr_same h (he x) (hn x))
  unfold execOp
  simp only [ho, Sem.run_pure]

theorem isBool_some {x : AV} {b : Bool} (h : isBool x = some b) : x = .dat (.sc (.bool b)) := by
 unfold isBool at h; split at h
 ·simpa using h
 ·cases h
theorem isInt_some {x : AV} {k : IntKind} {n : Int} (h : isInt x = some (k, n)) : x = .dat (.sc (.int k n)) := by
 unfold isInt at h; split at h
 ·simpa using h
 ·cases h
theorem isStr_some {x : AV} {b : ByteArray} (h : isStr x = some b) : x = .dat (.sc (.string b)) := by
 unfold isStr at h; split at h
 ·simpa using h
 ·cases h
theorem rv_bool {x : AV} {b : Bool} {v : Value} (h : isBool x = some b) (hv : RV κ F w x v) : v = .bool b := by
 rw [isBool_some h] at hv; unfold RV RD at hv; exact hv.1
theorem rv_int {x : AV} {k : IntKind} {n : Int} {v : Value} (h : isInt x = some (k, n)) (hv : RV κ F w x v) : v = .int k n := by
 rw [isInt_some h] at hv; unfold RV RD at hv; exact hv.1
theorem rv_str {x : AV} {b : ByteArray} {v : Value} (h : isStr x = some b) (hv : RV κ F w x v) : v = .string b := by
 rw [isStr_some h] at hv; unfold RV RD at hv; exact hv.1

theorem dat_nb (d : D) : NB U (.dat d) := by unfold NB; trivial
theorem rv_sc {v : Value} (h : one v = true) : RV κ F w (.dat (.sc v)) v := by unfold RV RD; exact ⟨rfl, h⟩

theorem sr_sc (h : ORel cx κ F w U σ) {p : Prop} {rd : List Nat} {v : Value} (h1 : one v = true) : SR cx κ F w U nm σ (.det p rd (.dat (.sc v)) []) v w :=
 sr_same h (rv_sc h1) (dat_nb _)

theorem sr_split_true {s t : Spec} {v : Value} {w' : World} {b : Bool} (hb : b = true) (h : SR cx κ F w U nm σ s v w') : SR cx κ F w U nm σ (.split b s t) v w' := by
 subst hb; exact h
theorem sr_split_false {s t : Spec} {v : Value} {w' : World} {b : Bool} (hb : b = false) (h : SR cx κ F w U nm σ t v w') : SR cx κ F w U nm σ (.split b s t) v w' := by
 subst hb; exact h

theorem sound_pick (h : ORel cx κ F w U σ) {o : Oper} {ρ : Operand → Value} {e : Operand → AV} (he : ∀ x, RV κ F w (e x) (ρ x)) (hn : ∀ x, NB U (e x)) {c a b : Operand} (ho : o.op = .pick c a b) :
  Sound P cx κ F w U nm σ o ρ (spec ty Γ σ e nm o) := by
 unfold Sound spec
 simp only [ho]
 cases hb : isBool (e c) with
 | none => intro hp; exact hp.elim
 | some t =>
  intro _
  have hv := rv_bool hb (he c)
  cases t with
  | true =>
   refine out_val (v := ρ a) (w' := w) ?_ (sr_split_true rfl (sr_same h (he a) (hn a)))
   unfold execOp
   simp [ho, hv, asBool]
  | false =>
   refine out_val (v := ρ b) (w' := w) ?_ (sr_split_false rfl (sr_same h (he b) (hn b)))
   unfold execOp
   simp [ho, hv, asBool]

theorem wrap_in {r : Int} (h : -9223372036854775808 ≤ r ∧ r ≤ 9223372036854775807) : IntKind.i64.wrap r = r := by
 rw [IntKind.wrap_i64]; omega

theorem sound_intBd (h : ORel cx κ F w U σ) {o : Oper} {ρ : Operand → Value} {k : IntKind} {r : Int} (hr : (execOp ρ o).run P w = .ok (.value (.int k (k.wrap r))) w) : Sound P cx κ F w U nm σ o ρ (intBd k r) := by
 intro _
 exact out_val hr (sr_sc h rfl)

theorem sound_boolV (h : ORel cx κ F w U σ) {o : Oper} {ρ : Operand → Value} {b : Bool} (hr : (execOp ρ o).run P w = .ok (.value (.bool b)) w) : Sound P cx κ F w U nm σ o ρ (boolV b) :=
 fun _ => out_val hr (sr_sc h rfl)

theorem sound_det (h : ORel cx κ F w U σ) {o : Oper} {ρ : Operand → Value} {p : Prop} {rd : List Nat} {v : Value} (h1 : one v = true) (hr : p → (execOp ρ o).run P w = .ok (.value v) w) : Sound P cx κ F w U nm σ o ρ (.det p rd (.dat (.sc v)) []) :=
 fun hp => out_val (hr hp) (sr_sc h h1)

theorem guard_int (op : BinOp) (t : TypeId) (x y : Operand) {k k' : IntKind} {a b : Int} : (eqGuard op t x y (.int k a) (.int k' b)).run P w = .ok () w := by
 unfold eqGuard; split <;> simp
theorem guard_str (op : BinOp) (t : TypeId) (x y : Operand) {a b : ByteArray} : (eqGuard op t x y (.string a) (.string b)).run P w = .ok () w := by
 unfold eqGuard; split <;> simp
theorem guard_bool (op : BinOp) (t : TypeId) (x y : Operand) {a b : Bool} : (eqGuard op t x y (.bool a) (.bool b)).run P w = .ok () w := by
 unfold eqGuard; split <;> simp

theorem run_eq_bool {t : TypeId} (hu : P.underlying t = some .bool) (a b : Bool) : (Op.equal t (.bool a) (.bool b)).run P w = .ok (a == b) w := by
 have : ∀ d, (Op.equalIn (d + 1) t (.bool a) (.bool b)).run P w = .ok (a == b) w := fun d => by simp only [Op.equalIn, Sem.run_bind, run_underlying hu, Result.andThen_ok, Sem.run_pure]
 exact this 9999

theorem guard_sl (op : BinOp) (t : TypeId) (x y : Operand) {a a' : Option Addr} {n c n' c' : Nat} : (eqGuard op t x y (.slice a n c) (.slice a' n' c')).run P w = .ok () w := by
 unfold eqGuard; split <;> simp
theorem run_eq_sl {t el : TypeId} (hu : P.underlying t = some (.slice el)) (a : Option Addr) (n c : Nat) : (Op.equal t (.slice a n c) (.slice none 0 0)).run P w = .ok a.isNone w := by
 have : ∀ d, (Op.equalIn (d + 1) t (.slice a n c) (.slice none 0 0)).run P w = .ok a.isNone w := fun d => by
  cases a <;> simp [Op.equalIn, Sem.run_bind, run_underlying hu]
 exact this 9999

theorem exec_bin {o : Oper} {ρ : Operand → Value} {op : BinOp} {t u : TypeId} {x y : Operand} (ho : o.op = .binOp op t x y u) {v : Value}
  (hg : (eqGuard op t x y (ρ x) (ρ y)).run P w = .ok () w) (hr : (binOp op t (ρ x) (ρ y)).run P w = .ok v w) : (execOp ρ o).run P w = .ok (.value v) w := by
 unfold execOp
 simp only [ho]
 refine exec_v _ ?_
 simp only [Sem.run_bind, hg, Result.andThen_ok, hr]

theorem RC_at {F : Nat → Prop} {w : World} : ∀ {l : List D} {us : List Value} (i : Nat) (v : Value), RC F w l us → l[i]? = some (.sc v) → us[i]? = some v
 | [], _, i, v, _, h => by simp at h
 | d :: l, us, 0, v, h, hi => by
  unfold RC at h
  obtain ⟨u, us', rfl, _, h2, _⟩ := h
  simp only [List.getElem?_cons_zero, Option.some.injEq] at hi
  subst hi
  unfold RD at h2
  simp [h2.1]
 | d :: l, us, i + 1, v, h, hi => by
  unfold RC at h
  obtain ⟨u, us', rfl, _, _, h3⟩ := h
  simpa using RC_at i v h3 (by simpa using hi)

theorem run_eqF0 (hty : ∀ t x, ty t = some x → TyOK P t x) {F : Nat → Prop} {xs ys : List D} {cs cs' : List Value} (hx : RC F w xs cs) (hy : RC F w ys cs') (d : Nat) :
  ∀ (fs : List Field) (b : Bool), (fs.all fun f => f.name != "_") = true → eqF0 ty xs ys fs = some b → (Op.eqFields (d + 1) cs.toArray cs'.toArray fs).run P w = .ok b w
 | [], b, _, h => by simp only [eqF0, Option.some.injEq] at h; subst h; simp [Op.eqFields]
 | f :: fs, b, hn, h => by
  simp only [List.all_cons, Bool.and_eq_true, bne_iff_ne, ne_eq] at hn
  have part : ∀ (cs : List Value) (v : Value) (de : TypeDesc), P.underlying f.type = some de → (∀ a b, de ≠ .array a b) → (∀ a, de ≠ .struct a) → cs[f.offset]? = some v → (part f.type cs.toArray f.offset).run P w = .ok v w := by
   intro cs v de hu h1 h2 hc
   cases de <;> first | exact absurd rfl (h1 _ _) | exact absurd rfl (h2 _) | simp [part, isAgg, run_underlying hu, hc]
  unfold eqF0 at h
  split at h
  ·rename_i q _ _ _ _ k a k' b' h1 h2 h3
   split at h
   ·rename_i hk; subst hk
    obtain ⟨r, hr, rfl⟩ := Option.map_eq_some_iff.1 h
    have hu := (hty _ _ h1).1
    have ih := run_eqF0 hty hx hy d fs r hn.2 hr
    simp only [Op.eqFields, hn.1, ne_eq, not_false_eq_true, if_true, Sem.run_bind, part cs _ _ hu (by simp) (by simp) (RC_at _ _ hx h2), part cs' _ _ hu (by simp) (by simp) (RC_at _ _ hy h3), Result.andThen_ok, run_equalIn_int w d f.type k _ a b' hu]
    cases (a == b') <;> simp [ih]
   ·cases h
  ·rename_i _ _ _ _ a b' h1 h2 h3
   obtain ⟨r, hr, rfl⟩ := Option.map_eq_some_iff.1 h
   have hu := (hty _ _ h1).1
   have ih := run_eqF0 hty hx hy d fs r hn.2 hr
   simp only [Op.eqFields, hn.1, ne_eq, not_false_eq_true, if_true, Sem.run_bind, part cs _ _ hu (by simp) (by simp) (RC_at _ _ hx h2), part cs' _ _ hu (by simp) (by simp) (RC_at _ _ hy h3), Result.andThen_ok, run_equalIn_bool' w d f.type a b' hu]
   cases (a == b') <;> simp [ih]
  ·rename_i _ _ _ _ a b' h1 h2 h3
   obtain ⟨r, hr, rfl⟩ := Option.map_eq_some_iff.1 h
   have hu := (hty _ _ h1).1
   have ih := run_eqF0 hty hx hy d fs r hn.2 hr
   simp only [Op.eqFields, hn.1, ne_eq, not_false_eq_true, if_true, Sem.run_bind, part cs _ _ hu (by simp) (by simp) (RC_at _ _ hx h2), part cs' _ _ hu (by simp) (by simp) (RC_at _ _ hy h3), Result.andThen_ok, run_equalIn_string w d f.type a b' hu]
   cases (a.toList == b'.toList) <;> simp [ih]
  ·cases h

theorem RC_drop {F : Nat → Prop} {w : World} : ∀ (n : Nat) {l : List D} {us : List Value}, RC F w l us → RC F w (l.drop n) (us.drop n)
 | 0, _, _, h => h
 | n + 1, [], us, h => by unfold RC at h; subst h; simp only [List.drop_nil]; unfold RC; rfl
 | n + 1, d :: l, us, h => by
  unfold RC at h
  obtain ⟨u, us', rfl, _, _, h3⟩ := h
  exact RC_drop n h3
theorem RC_take {F : Nat → Prop} {w : World} : ∀ (n : Nat) {l : List D} {us : List Value}, RC F w l us → RC F w (l.take n) (us.take n)
 | 0, l, us, h => by simp only [List.take_zero]; unfold RC; rfl
 | n + 1, [], us, h => by unfold RC at h; subst h; simp only [List.take_nil]; unfold RC; rfl
 | n + 1, d :: l, us, h => by
  unfold RC at h
  obtain ⟨u, us', rfl, h1, h2, h3⟩ := h
  simp only [List.take_succ_cons]
  unfold RC
  exact ⟨_, _, rfl, h1, h2, RC_take n h3⟩
theorem run_eqF (hty : ∀ t x, ty t = some x → TyOK P t x) {F : Nat → Prop} {xs ys : List D} {cs cs' : List Value} (hx : RC F w xs cs) (hy : RC F w ys cs') (d : Nat) :
  ∀ (fs : List Field) (b : Bool), (fs.all fun f => f.name != "_") = true → eqF ty xs ys fs = some b → (Op.eqFields (d + 2) cs.toArray cs'.toArray fs).run P w = .ok b w
 | [], b, _, h => by simp only [eqF, Option.some.injEq] at h; subst h; simp [Op.eqFields]
 | f :: fs, b, hn, h => by
  simp only [List.all_cons, Bool.and_eq_true, bne_iff_ne, ne_eq] at hn
  have part : ∀ (cs : List Value) (v : Value) (de : TypeDesc), P.underlying f.type = some de → (∀ a b, de ≠ .array a b) → (∀ a, de ≠ .struct a) → cs[f.offset]? = some v → (part f.type cs.toArray f.offset).run P w = .ok v w := by
   intro cs v de hu h1 h2 hc
   cases de <;> first | exact absurd rfl (h1 _ _) | exact absurd rfl (h2 _) | simp [part, isAgg, run_underlying hu, hc]
  unfold eqF at h
  split at h
  ·rename_i q _ _ _ _ k a k' b' h1 h2 h3
   split at h
   ·rename_i hk; subst hk
    obtain ⟨r, hr, rfl⟩ := Option.map_eq_some_iff.1 h
    have hu := (hty _ _ h1).1
    have ih := run_eqF hty hx hy d fs r hn.2 hr
    simp only [Op.eqFields, hn.1, ne_eq, not_false_eq_true, if_true, Sem.run_bind, part cs _ _ hu (by simp) (by simp) (RC_at _ _ hx h2), part cs' _ _ hu (by simp) (by simp) (RC_at _ _ hy h3), Result.andThen_ok, run_equalIn_int w (d + 1) f.type k _ a b' hu]
    cases (a == b') <;> simp [ih]
   ·cases h
  ·rename_i _ _ _ _ a b' h1 h2 h3
   obtain ⟨r, hr, rfl⟩ := Option.map_eq_some_iff.1 h
   have hu := (hty _ _ h1).1
   have ih := run_eqF hty hx hy d fs r hn.2 hr
   simp only [Op.eqFields, hn.1, ne_eq, not_false_eq_true, if_true, Sem.run_bind, part cs _ _ hu (by simp) (by simp) (RC_at _ _ hx h2), part cs' _ _ hu (by simp) (by simp) (RC_at _ _ hy h3), Result.andThen_ok, run_equalIn_bool' w (d + 1) f.type a b' hu]
   cases (a == b') <;> simp [ih]
  ·rename_i _ _ _ _ a b' h1 h2 h3
   obtain ⟨r, hr, rfl⟩ := Option.map_eq_some_iff.1 h
   have hu := (hty _ _ h1).1
   have ih := run_eqF hty hx hy d fs r hn.2 hr
   simp only [Op.eqFields, hn.1, ne_eq, not_false_eq_true, if_true, Sem.run_bind, part cs _ _ hu (by simp) (by simp) (RC_at _ _ hx h2), part cs' _ _ hu (by simp) (by simp) (RC_at _ _ hy h3), Result.andThen_ok, run_equalIn_string w (d + 1) f.type a b' hu]
   cases (a.toList == b'.toList) <;> simp [ih]
  ·rename_i gs n _ _ h1
   split at h
   ·rename_i q hq0
    obtain ⟨r, hr, rfl⟩ := Option.map_eq_some_iff.1 h
    have tok := hty _ _ h1
    obtain ⟨hu, i, _, _, _, _, hq⟩ := tok
    obtain ⟨q1, q2, q3⟩ := hq rfl
    have ih := run_eqF hty hx hy d fs r hn.2 hr
    have hpart : ∀ cs : List Value, (Go.part f.type cs.toArray f.offset).run P w = .ok (.agg ((cs.drop f.offset).take n).toArray) w := by
     intro cs
     have e : cs.toArray.extract f.offset (f.offset + n) = ((cs.drop f.offset).take n).toArray := by
      rw [List.extract_toArray]; simp [List.extract]
     unfold Go.part
     simp only [Sem.run_bind, run_isAgg' (hty _ _ h1), TyE.isAgg, Result.andThen_ok, if_true, run_sizeOf' (hty _ _ h1), Sem.run_pure, e]
    have hf : P.fieldsOf f.type = gs := by simp [Program.fieldsOf, hu]
    have hin := run_eqF0 hty (RC_take n (RC_drop f.offset hx)) (RC_take n (RC_drop f.offset hy)) d gs.toList q (q3 gs rfl) hq0
    have heq : (Op.equalIn (d + 2) f.type (.agg ((cs.drop f.offset).take n).toArray) (.agg ((cs'.drop f.offset).take n).toArray)).run P w = .ok q w := by
     rw [run_equalIn_agg w (d + 1) f.type _ _ (by rw [hf]; exact hu) q1, hf]; exact hin
    simp only [Op.eqFields, hn.1, ne_eq, not_false_eq_true, if_true, Sem.run_bind, hpart cs, hpart cs', Result.andThen_ok, heq]
    cases q <;> simp [ih]
   ·cases h
  ·cases h

theorem run_eqA {F : Nat → Prop} {el : TypeId} {k0 : IntKind} (he : P.underlying el = some (.int k0)) {cs cs' : List Value} (d : Nat) : ∀ {xs ys : List D} (i : Nat) (b : Bool), RC F w xs (cs.drop i) → RC F w ys (cs'.drop i) → eqA xs ys = some b →
  ((forIn (List.range' i xs.length) ((none, ()) : Option Bool × Unit) fun (j : Nat) (_ : Option Bool × Unit) => (do
   if !(← Op.equalIn (d + 1) el (← part el cs.toArray (j * 1)) (← part el cs'.toArray (j * 1))) then return .done (some false, ())
   return .yield (none, ()) : Sem (ForInStep (Option Bool × Unit)))).run P w).andThen (fun r w' => match r.1 with | none => .ok true w' | some a => .ok a w') = .ok b w := by
 intro xs
 induction xs with
 | nil =>
  intro ys i b _ _ h
  cases ys with
  | nil => simp only [eqA, Option.some.injEq] at h; subst h; simp
  | cons y l => simp [eqA] at h
 | cons x l ih =>
  intro ys i b hx hy h
  unfold eqA at h
  split at h
  ·rename_i _ q; cases q
  ·rename_i _ k a l0 k' b' l' q1
   obtain ⟨rfl, rfl⟩ := List.cons.inj q1
   split at h
   ·rename_i hk
    subst hk
    obtain ⟨r, hr, rfl⟩ := Option.map_eq_some_iff.1 h
    have h1 : cs[i]? = some (.int k a) := by have := RC_at 0 (.int k a) hx rfl; simpa using this
    have h2 : cs'[i]? = some (.int k b') := by have := RC_at 0 (.int k b') hy rfl; simpa using this
    have part : ∀ (cs : List Value) (v : Value), cs[i]? = some v → (part el cs.toArray i).run P w = .ok v w := by
     intro cs v hc
     simp [Go.part, isAgg, run_underlying he, hc]
    have ih := ih (i + 1) r (by have := RC_drop 1 hx; simpa [List.drop_drop, Nat.add_comm] using this) (by have := RC_drop 1 hy; simpa [List.drop_drop, Nat.add_comm] using this) hr
    simp only [Nat.mul_one] at ih ⊢
    simp only [List.length_cons, List.range'_succ, List.forIn_cons, Sem.run_bind, part cs _ h1, part cs' _ h2, Result.andThen_ok, run_equalIn_int w d el k _ a b' he]
    cases (a == b')
    ·simp
    ·simpa using ih
   ·cases h
  ·cases h
theorem run_equalIn_arr {F : Nat → Prop} {t el : TypeId} {n : Nat} {k0 : IntKind} (hu : P.underlying t = some (.array n el)) (he : P.underlying el = some (.int k0)) (hs : (sizeOf el).run P w = .ok 1 w) {l l' : List D} {cs cs' : List Value} (cx1 : RC F w l cs) (cy1 : RC F w l' cs') (hn : l.length = n) (d : Nat) {b : Bool} (hb : eqA l l' = some b) :
  (Op.equalIn (d + 2) t (.agg cs.toArray) (.agg cs'.toArray)).run P w = .ok b w := by
 have := run_eqA (P := P) (w := w) he d 0 b (xs := l) (ys := l') (cs := cs) (cs' := cs') (by simpa using cx1) (by simpa using cy1) hb
 rw [hn] at this
 rw [show d + 2 = (d + 1) + 1 from rfl]
 generalize d + 1 = e at this ⊢
 simp only [Op.equalIn, Sem.run_bind, run_underlying hu, Result.andThen_ok, hs, Std.Legacy.Range.forIn_eq_forIn_range', Std.Legacy.Range.size, Nat.sub_zero, Nat.add_sub_cancel, Nat.div_one]
 rw [← this]
 congr 1
 funext a w'
 rcases a with ⟨_ | _, _⟩ <;> simp
theorem run_eqAll (hty : ∀ t x, ty t = some x → TyOK P t x) {F : Nat → Prop} {l l' : List D} {cs cs' : List Value} (cx1 : RC F w l cs) (cy1 : RC F w l' cs') {t : TypeId} {d : TypeDesc} (hu : P.underlying t = some d) (q1 : P.stoodInHeld t = false) (q3 : ∀ fs, d = .struct fs → (fs.toList.all fun f => f.name != "_") = true) {b : Bool} (hb : eqAll ty l l' d = some b) :
  (Op.equalIn 10000 t (.agg cs.toArray) (.agg cs'.toArray)).run P w = .ok b w := by
 unfold eqAll at hb
 split at hb
 ·rename_i fs
  have hf : P.fieldsOf t = fs := by simp [Program.fieldsOf, hu]
  have hrun := run_eqF (P := P) hty cx1 cy1 9997 fs.toList b (q3 fs rfl) hb
  rw [run_equalIn_agg w 9999 t _ _ (by rw [hf]; exact hu) q1, hf]; exact hrun
 ·rename_i n el
  split at hb
  ·rename_i k0 _ _ _ hel
   split at hb
   ·rename_i hn
    have he := hty _ _ hel
    exact run_equalIn_arr hu he.1 (run_sizeOf' he) cx1 cy1 hn 9998 hb
   ·cases hb
  ·cases hb
 ·cases hb
theorem sound_aggEq (hty : ∀ t x, ty t = some x → TyOK P t x) (h : ORel cx κ F w U σ) {o : Oper} {ρ : Operand → Value} {e : Operand → AV} (he : ∀ x, RV κ F w (e x) (ρ x)) {op : BinOp} {t u : TypeId} {x y : Operand} (ho : o.op = .binOp op t x y u) :
  Sound P cx κ F w U nm σ o ρ (aggEq ty op t (e x) (e y)) := by
 unfold aggEq
 split
 ·rename_i l l' hex hey
  have hx := he x; have hy := he y
  rw [hex] at hx; rw [hey] at hy
  unfold RV RD at hx hy
  obtain ⟨cs, vx, cx1⟩ := hx
  obtain ⟨cs', vy, cy1⟩ := hy
  split
  ·rename_i d sz by' z hT
   obtain ⟨hu, i, _, _, _, _, hq⟩ := hty _ _ hT
   obtain ⟨q1, q2, q3⟩ := hq rfl
   split
   ·rename_i b hb
    have heq : (Op.equalIn 10000 t (.agg cs.toArray) (.agg cs'.toArray)).run P w = .ok b w := run_eqAll hty cx1 cy1 hu q1 q3 hb
    split
    ·refine sound_boolV h (exec_bin ho (by rw [vx, vy]; exact run_eqGuard_agg w _ t _ _ _ _ q2) ?_)
     rw [vx, vy, run_eql_struct, heq]; rfl
    ·refine sound_boolV h (exec_bin ho (by rw [vx, vy]; exact run_eqGuard_agg w _ t _ _ _ _ q2) ?_)
     rw [vx, vy, run_neq_struct, heq]; rfl
    ·intro hp; exact hp.elim
   ·intro hp; exact hp.elim
  ·intro hp; exact hp.elim
 ·intro hp; exact hp.elim

theorem sound_bin (hty : ∀ t x, ty t = some x → TyOK P t x) (h : ORel cx κ F w U σ) {o : Oper} {ρ : Operand → Value} {e : Operand → AV} (he : ∀ x, RV κ F w (e x) (ρ x)) {op : BinOp} {t u : TypeId} {x y : Operand} (ho : o.op = .binOp op t x y u) :
  Sound P cx κ F w U nm σ o ρ (spec ty Γ σ e nm o) := by
 have hs : spec ty Γ σ e nm o = binSpec ty op t (e x) (e y) := by unfold spec; simp only [ho]
 rw [hs]
 unfold binSpec
 split
 ·rename_i k a k' b hx hy
  have vx := rv_int hx (he x)
  have vy := rv_int hy (he y)
  have run : ∀ v, (binOp op t (.int k a) (.int k' b)).run P w = .ok v w → (execOp ρ o).run P w = .ok (.value v) w := fun v hv =>
   exec_bin ho (by rw [vx, vy]; exact guard_int ..) (by rw [vx, vy]; exact hv)
  split
  ·refine sound_det h rfl fun hp => run _ ?_
   have : ¬ b < 0 := by omega
   simp [binOp, Op.shift, this]
  ·refine sound_det h rfl fun hp => run _ ?_
   have : ¬ b < 0 := by omega
   simp [binOp, Op.shift, this]
  ·rename_i hn1 hn2
   split
   ·rename_i hk
    subst hk
    have nsh : ∀ v, (match op with
      | .add | .sub | .mul => Op.intArith op k a b
      | .quo | .rem => Op.intDiv op k a b
      | .and | .or | .xor | .andNot => Op.intBits op k a b
      | _ => Op.intCmp op a b : Sem Value).run P w = .ok v w → (execOp ρ o).run P w = .ok (.value v) w := fun v hv => run v (by
     cases op <;> first | exact absurd rfl hn1 | exact absurd rfl hn2 | simpa [binOp] using hv)
    split
    ·exact sound_intBd h (nsh _ (by simp [Op.intArith]))
    ·exact sound_intBd h (nsh _ (by simp [Op.intArith]))
    ·exact sound_intBd h (nsh _ (by simp [Op.intArith]))
    ·exact sound_det h rfl fun hp => nsh _ (by simp [Op.intDiv, hp])
    ·exact sound_det h rfl fun hp => nsh _ (by simp [Op.intDiv, hp])
    ·exact sound_boolV h (nsh _ (by simp [Op.intCmp]))
    ·exact sound_boolV h (nsh _ (by simp [Op.intCmp]))
    ·exact sound_boolV h (nsh _ (by simp [Op.intCmp]))
    ·exact sound_boolV h (nsh _ (by simp [Op.intCmp]))
    ·exact sound_boolV h (nsh _ (by simp [Op.intCmp]))
    ·exact sound_boolV h (nsh _ (by simp [Op.intCmp]))
    ·exact sound_det h rfl fun hp => nsh _ (by simp [Op.intBits])
    ·exact sound_det h rfl fun hp => nsh _ (by simp [Op.intBits])
    ·exact sound_det h rfl fun hp => nsh _ (by simp [Op.intBits])
    ·intro hp; exact hp.elim
   ·intro hp; exact hp.elim
 ·split
  ·rename_i a b hx hy
   have vx := rv_str hx (he x)
   have vy := rv_str hy (he y)
   have run : ∀ v, (Op.stringOp op a b).run P w = .ok v w → (execOp ρ o).run P w = .ok (.value v) w := fun v hv =>
    exec_bin ho (by rw [vx, vy]; exact guard_str ..) (by rw [vx, vy]; cases op <;> simpa [binOp] using hv)
   split
   ·refine sound_det h rfl fun hp => run _ ?_
    have : ¬ (((a.size + b.size : Nat) : Int) > IntKind.i64.max) := by
     have e : IntKind.i64.max = 9223372036854775807 := by decide
     rw [e]; omega
    simp only [Op.stringOp, this, if_false, Sem.run_pure]
   all_goals first | exact sound_boolV h (run _ (by simp [Op.stringOp])) | (intro hp; exact hp.elim)
  ·split
   ·rename_i a b size bytes zero hx hy ht
    have vx := rv_bool hx (he x)
    have vy := rv_bool hy (he y)
    have hu := (hty _ _ ht).1
    split
    ·refine sound_boolV h (exec_bin ho (by rw [vx, vy]; exact guard_bool ..) ?_)
     rw [vx, vy]
     simp only [binOp, Sem.run_bind, run_eq_bool hu, Result.andThen_ok, Sem.run_pure]
    ·refine sound_boolV h (exec_bin ho (by rw [vx, vy]; exact guard_bool ..) ?_)
     rw [vx, vy]
     simp only [binOp, Sem.run_bind, run_eq_bool hu, Result.andThen_ok, Sem.run_pure]
    ·intro hp; exact hp.elim
   ·unfold nilSpec
    split
    ·rename_i el size bytes zero hT hy
     have hu := (hty _ _ hT).1
     have vy : ρ y = .slice none 0 0 := by
      have := he y
      rw [hy] at this
      unfold RV RD at this
      exact this.1
     have run : ∀ (a : Option Addr) (n c : Nat), ρ x = .slice a n c → (op = .eql → (execOp ρ o).run P w = .ok (.value (.bool a.isNone)) w) ∧ (op = .neq → (execOp ρ o).run P w = .ok (.value (.bool (!a.isNone))) w) := by
      intro a n c vx
      refine ⟨fun hop => ?_, fun hop => ?_⟩
      ·subst hop
       exact exec_bin ho (by rw [vx, vy]; exact guard_sl ..) (by rw [vx, vy]; simp only [binOp, Sem.run_bind, run_eq_sl hu, Result.andThen_ok, Sem.run_pure])
      ·subst hop
       exact exec_bin ho (by rw [vx, vy]; exact guard_sl ..) (by rw [vx, vy]; simp only [binOp, Sem.run_bind, run_eq_sl hu, Result.andThen_ok, Sem.run_pure])
     have key : ∀ neg : Bool, ((neg = false ∧ op = .eql) ∨ (neg = true ∧ op = .neq)) → Sound P cx κ F w U nm σ o ρ (nilEq neg (e x)) := by
      intro neg hneg
      have hx := he x
      unfold nilEq
      split
      ·rename_i es d0 l hex
       rw [hex] at hx; unfold RV RD at hx
       obtain ⟨a, c, vx, _, _, hac, hl⟩ := hx
       refine sound_det h rfl fun _ => ?_
       rcases hl with hl | ⟨b, off, us, ha, _⟩
       ·cases hl
       ·subst ha
        rcases hneg with ⟨rfl, hop⟩ | ⟨rfl, hop⟩
        ·rw [(run _ _ c vx).1 hop]; rfl
        ·rw [(run _ _ c vx).2 hop]; rfl
      ·rename_i es l hne0 hex
       rw [hex] at hx; unfold RV RD at hx
       obtain ⟨a, c, vx, _, _, hac, hl⟩ := hx
       intro _
       have hr : (execOp ρ o).run P w = .ok (.value (.bool (a.isNone != neg))) w := by
        rcases hneg with ⟨rfl, hop⟩ | ⟨rfl, hop⟩
        ·rw [(run a _ c vx).1 hop]; simp
        ·rw [(run a _ c vx).2 hop]; simp
       refine out_val hr ⟨.dat (.sc (.bool (a.isNone != neg))), [], κ, F, ⟨rfl, a.isNone, rfl, fun hne => ?_⟩, Aft.same h, by unfold RV RD; exact ⟨rfl, rfl⟩, by unfold NB; trivial⟩
       rcases hl with hl | ⟨b, off, us, ha, _⟩
       ·exact absurd hl hne
       ·rw [ha]; rfl
      ·rename_i hex
       rw [hex] at hx; unfold RV RD at hx
       have vx := hx.1
       refine sound_det h rfl fun _ => ?_
       rcases hneg with ⟨rfl, hop⟩ | ⟨rfl, hop⟩
       ·rw [(run none 0 0 vx).1 hop]; rfl
       ·rw [(run none 0 0 vx).2 hop]; rfl
      ·intro hp; exact hp.elim
     split
     ·exact key false (.inl ⟨rfl, rfl⟩)
     ·exact key true (.inr ⟨rfl, rfl⟩)
     ·intro hp; exact hp.elim
    ·exact sound_aggEq hty h he ho

end
end Go.Ab
