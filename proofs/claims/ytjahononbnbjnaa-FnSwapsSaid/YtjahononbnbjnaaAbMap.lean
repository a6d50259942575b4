/- My own layer: maps whose keys are pairs of integers: made, looked into, written. -/
import Derived.Test.YtjahononbnbjnaaAbSound6
import Derived.MapKept
namespace Go.Ab
set_option linter.unusedVariables false
set_option linter.unusedSimpArgs false
section
variable {P : Program} {cx : Cx} {κ : Kap} {F : Nat → Prop} {w : World} {U : Nat → Prop} {nm : Nat} {σ : Objs} {ty : TypeId → Option TyE} {Γ : Nat → Option FnSpec}

theorem mapOf_some (hty : ∀ t x, ty t = some x → TyOK P t x) {t : TypeId} {E : TyE} (h : mapOf ty t = some E) :
  ∃ k i el, P.underlying t = some (.map k el) ∧ P.underlying k = some (.array 2 i) ∧ P.underlying i = some (.int .i64) ∧ (∀ w : World, (sizeOf i).run P w = .ok 1 w) ∧ TyOK P el E := by
 unfold mapOf at h
 split at h
 ·rename_i k el _ _ _ _ h1
  split at h
  ·rename_i i _ _ _ _ h2
   split at h
   ·rename_i _ _ _ h3
    have h3' := hty _ _ h3
    exact ⟨k, i, el, (hty _ _ h1).1, (hty _ _ h2).1, h3'.1, fun w => run_sizeOf' h3', hty _ _ h⟩
   ·cases h
  ·cases h
 ·cases h

abbrev pairV (k : Int × Int) : Value := .agg #[.int .i64 k.1, .int .i64 k.2]
theorem pairD_rv {x : AV} {k : Int × Int} {v : Value} (h : pairD x = some k) (hv : RV κ F w x v) : v = pairV k := by
 unfold pairD at h
 split at h
 ·cases h
  unfold RV RD at hv
  obtain ⟨cs, rfl, hc⟩ := hv
  unfold RC at hc
  obtain ⟨u, us, rfl, _, h1, hc⟩ := hc
  unfold RC at hc
  obtain ⟨u2, us2, rfl, _, h2, hc⟩ := hc
  unfold RC at hc
  subst hc
  unfold RD at h1 h2
  rw [h1.1, h2.1]
 ·cases h

theorem part_pair {i : TypeId} (hi : P.underlying i = some (.int .i64)) (a b : Int) (j : Nat) (v : Value) (hv : (#[Value.int .i64 a, .int .i64 b])[j]? = some v) : (part i #[.int .i64 a, .int .i64 b] j).run P w = .ok v w := by
 simp [Go.part, isAgg, run_underlying hi, hv]
theorem checkKey_pair {k i : TypeId} (empty : Bool) (hk : P.underlying k = some (.array 2 i)) (hi : P.underlying i = some (.int .i64)) (hs : (sizeOf i).run P w = .ok 1 w) (q : Int × Int) :
  (Instr.checkKey empty 10000 k (pairV q)).run P w = .ok () w := by
 have h1 : ∀ (n : Nat) (v : Int), (Instr.checkKey empty (n + 1) i (.int .i64 v)).run P w = .ok () w := fun n v => by
  simp [Instr.checkKey, run_underlying hi]
 have p0 := part_pair (P := P) (w := w) hi q.1 q.2 0 _ rfl
 have p1 := part_pair (P := P) (w := w) hi q.1 q.2 1 _ rfl
 obtain ⟨m, hm⟩ : ∃ m : Nat, m = 9998 + 1 := ⟨_, rfl⟩
 replace h1 : ∀ v : Int, (Instr.checkKey empty m i (.int .i64 v)).run P w = .ok () w := fun v => by rw [hm]; exact h1 9998 v
 rw [show (10000 : Nat) = m + 1 by omega]
 clear hm
 simp only [Instr.checkKey, Sem.run_bind, run_underlying hk, Result.andThen_ok, Std.Legacy.Range.forIn_eq_forIn_range', Std.Legacy.Range.size, Nat.sub_zero, Nat.add_sub_cancel, Nat.div_one]
 simp [List.range', hs, p0, p1, h1]

theorem eq_pair {k i : TypeId} (hk : P.underlying k = some (.array 2 i)) (hi : P.underlying i = some (.int .i64)) (hs : (sizeOf i).run P w = .ok 1 w) (q r : Int × Int) :
  (Op.equal k (pairV q) (pairV r)).run P w = .ok (decide (r = q)) w := by
 have rc : ∀ q : Int × Int, RC (fun _ => False) w [.sc (.int .i64 q.1), .sc (.int .i64 q.2)] [.int .i64 q.1, .int .i64 q.2] := fun q => RC_scs (l := [.int .i64 q.1, .int .i64 q.2]) rfl
 have := run_equalIn_arr (P := P) (w := w) hk hi hs (rc q) (rc r) rfl 9998 (b := q.1 == r.1 && (q.2 == r.2 && true)) (by simp [eqA])
 have e : (q.1 == r.1 && (q.2 == r.2 && true)) = decide (r = q) := by
  rw [Bool.eq_iff_iff]
  simp only [Bool.and_true, Bool.and_eq_true, beq_iff_eq, decide_eq_true_eq, Prod.ext_iff]
  exact ⟨fun h => ⟨h.1.symm, h.2.symm⟩, fun h => ⟨h.1.symm, h.2.symm⟩⟩
 rw [e] at this
 exact this

def findM (k : Int × Int) : List ((Int × Int) × D) → List MapEntry → Nat → Option (Nat × Value)
 | (k', _) :: l, e :: es, i => if k' = k then some (i, e.val) else findM k l es (i + 1)
 | _, _, _ => none
theorem findAsking_ok {k i : TypeId} (hk : P.underlying k = some (.array 2 i)) (hi : P.underlying i = some (.int .i64)) (hs : (sizeOf i).run P w = .ok 1 w) (q : Int × Int) :
  ∀ (l : List ((Int × Int) × D)) (es : List MapEntry) (n : Nat), MR w l es → (Instr.findAsking k (pairV q) es n).run P w = .ok (findM q l es n) w
 | [], es, n, h => by
  have h : es = [] := h
  subst h
  simp [Instr.findAsking, findM]
 | (k', d) :: l, es, n, h => by
  obtain ⟨e, es', rfl, h1, _, h3⟩ := h
  unfold Instr.findAsking findM
  simp only [Sem.run_bind, h1, eq_pair hk hi hs q k', Result.andThen_ok]
  by_cases hq : k' = q
  ·simp [hq]
  ·simp [hq, findAsking_ok hk hi hs q l es' (n + 1) h3]
theorem findKey_ok {k i : TypeId} (hk : P.underlying k = some (.array 2 i)) (hi : P.underlying i = some (.int .i64)) (hs : (sizeOf i).run P w = .ok 1 w) (q : Int × Int)
  (l : List ((Int × Int) × D)) (es : List MapEntry) (h : MR w l es) : (Instr.findKey k (pairV q) es).run P w = .ok (findM q l es 0) w := by
 unfold Instr.findKey
 simp only [Sem.run_bind, run_underlying hk, Result.andThen_ok]
 cases es with
 | nil =>
  cases l with
  | nil => simp [Instr.findNow, findM]
  | cons p l => obtain ⟨_, _, h, _⟩ := h; cases h
 | cons e es =>
  have : Instr.findNow (.array 2 i) (pairV q) (e :: es) 0 = none := by simp [Instr.findNow, Instr.sameNow]
  simp only [this]
  exact findAsking_ok hk hi hs q l _ 0 h

theorem findM_get {z : D} {q : Int × Int} {vz : Value} (hz : ∀ F : Nat → Prop, RD F w z vz) : ∀ {l : List ((Int × Int) × D)} {es : List MapEntry} (n : Nat), MR w l es →
  (match findM q l es n with
  | some (_, v) => RD (fun _ => False) w (getM z q l).1 v ∧ (getM z q l).2 = true
  | none => getM z q l = (z, false))
 | [], es, n, h => by
  have h : es = [] := h
  subst h; simp [findM, getM]
 | (k', d) :: l, es, n, h => by
  obtain ⟨e, es', rfl, h1, h2, h3⟩ := h
  unfold findM getM
  by_cases hq : k' = q
  ·simp only [if_pos hq]; exact ⟨h2, trivial⟩
  ·simp only [if_neg hq]; exact findM_get hz (n + 1) h3

theorem findM_put {q : Int × Int} {d : D} {v : Value} (hd : RD (fun _ => False) w d v) {w' : World} : ∀ {l : List ((Int × Int) × D)} {es : List MapEntry} (n : Nat), MR w l es →
  (match findM q l es n with
  | some (j, _) => n ≤ j ∧ (∃ e, es[j - n]? = some e ∧ e.key = pairV q) ∧ MR w' (putM q d l) (es.modify (j - n) fun e => { e with key := pairV q, val := v })
  | none => ∀ c, MR w' (putM q d l) (es ++ [{ key := pairV q, val := v, born := c }]))
 | [], es, n, h => by
  have h : es = [] := h
  subst h
  simp only [findM, putM]
  exact fun c => ⟨_, _, rfl, rfl, RD.mono (fun _ h => h) (fun _ h => h.elim) hd, rfl⟩
 | (k', d') :: l, es, n, h => by
  obtain ⟨e, es', rfl, h1, h2, h3⟩ := h
  unfold findM putM
  by_cases hq : k' = q
  ·simp only [if_pos hq]
   refine ⟨Nat.le_refl _, ⟨e, by simp, by rw [h1, hq]⟩, ?_⟩
   rw [Nat.sub_self]
   exact ⟨_, es', rfl, rfl, RD.mono (fun _ h => h) (fun _ h => h.elim) hd, h3.mono⟩
  ·simp only [if_neg hq]
   have ih := findM_put (q := q) hd (w' := w') (n + 1) h3
   cases hf : findM q l es' (n + 1) with
   | none =>
    rw [hf] at ih
    exact fun c => ⟨e, _, rfl, h1, RD.mono (fun _ h => h) (fun _ h => h.elim) h2, ih c⟩
   | some p =>
    obtain ⟨j, v'⟩ := p
    rw [hf] at ih
    obtain ⟨g1, ⟨e0, g2, g3⟩, g4⟩ := ih
    have e1 : j - n = (j - (n + 1)) + 1 := by omega
    refine ⟨by omega, ⟨e0, by rw [e1]; simpa using g2, g3⟩, ?_⟩
    rw [e1]
    exact ⟨e, _, rfl, h1, RD.mono (fun _ h => h) (fun _ h => h.elim) h2, g4⟩

theorem flB_rd {d : D} {v : Value} (hf : flB d = true) (h : RD F w d v) : RD (fun _ => False) w d v := by
 have hsc : ∀ {d : D} {v : Value}, scB d = true → RD F w d v → RD (fun _ => False) w d v := by
  intro d v hd h
  cases d with
  | sc u => unfold RD at h ⊢; exact h
  | _ => cases hd
 cases d with
 | sc u => exact hsc rfl h
 | sl es l => cases hf
 | agg l =>
  unfold RD at h ⊢
  obtain ⟨cs, h1, h2⟩ := h
  refine ⟨cs, h1, ?_⟩
  replace hf : l.all scB = true := hf
  clear h1
  revert hf
  induction l generalizing cs with
  | nil => intro _; unfold RC at h2 ⊢; exact h2
  | cons x l ih =>
   intro hf
   simp only [List.all_cons, Bool.and_eq_true] at hf
   unfold RC at h2 ⊢
   obtain ⟨u, us, rfl, k1, k2, k3⟩ := h2
   exact ⟨u, us, rfl, k1, hsc hf.1 k2, ih us k3 hf.2⟩

theorem constD_rd {v : Value} {z : D} (h : (constAV v).toD = some z) (F : Nat → Prop) : RD F w z v := by
 cases v
 case agg cs =>
  simp only [constAV] at h
  split at h
  ·rename_i h1
   simp only [AV.toD, Option.some.injEq] at h
   subst h
   unfold RD
   exact ⟨cs.toList, rfl, RC_scs h1⟩
  ·cases h
 all_goals (simp only [constAV, AV.toD] at h; first | (simp only [Option.some.injEq] at h; subst h; unfold RD; exact ⟨rfl, rfl⟩) | cases h)
theorem mpAt_some {x : AV} {o : Nat} {t : TypeId} {l : List ((Int × Int) × D)} (h : mpAt σ x = some (o, t, l)) : x = .own o ∧ σ o = some (.mp t l) := by
 unfold mpAt at h
 split at h
 ·split at h
  ·rename_i h1; cases h; exact ⟨rfl, h1⟩
  ·cases h
 ·cases h

theorem sound_makeMap (h : ORel cx κ F w U σ) (hf : ¬ U nm) {o : Oper} {ρ : Operand → Value} {t : TypeId} (ho : o.op = .makeMap t none) :
  Sound P cx κ F w U nm σ o ρ (makeMapSpec ty nm t) := by
 unfold makeMapSpec
 split
 ·intro _
  have hh : (w.alloc (.map #[] 0)).heap[w.heap.size]? = some (.map #[] 0) := (MapKept.heap_alloc w _).1
  refine out_val (v := .map (some w.heap.size)) (w' := w.alloc (.map #[] 0)) ?_ (sr_new (κ' := fun n => if n = nm then kv (.map (some w.heap.size)) else κ n) (aft_newO h hf (x := .mp t []) (v := kv (.map (some w.heap.size))) ?_ ?_ trivial) ?_ (own_nb _ nm_un))
  ·unfold execOp
   simp only [ho]
   exact exec_v _ rfl
  ·intro κ' b hk hb
   exact new_blk (x := .mp t []) (by intros; simp) (by intros; simp) rfl hk hb
  ·intro κ' hk _
   show MapOK _ (κ' nm).v []
   rw [hk]
   exact ⟨_, #[], 0, rfl, hh, rfl⟩
  ·unfold RV
   exact ⟨by simp, rfl⟩
 ·intro hp; exact hp.elim

theorem sound_lookup (hty : ∀ t x, ty t = some x → TyOK P t x) (h : ORel cx κ F w U σ) {o : Oper} {ρ : Operand → Value} {e : Operand → AV} (he : ∀ x, RV κ F w (e x) (ρ x)) {t : TypeId} {x i : Operand} (ho : o.op = .lookup t x i true) :
  Sound P cx κ F w U nm σ o ρ (lookupSpec ty σ t (e x) (e i)) := by
 unfold lookupSpec
 split
 ·rename_i E ob t' l k hm hx hi
  split
  ·rename_i z hz
   intro _
   obtain ⟨kt, it, el, u1, u2, u3, u4, tokE⟩ := mapOf_some hty hm
   obtain ⟨hex, hσ⟩ := mpAt_some hx
   have hv := he x
   rw [hex] at hv
   unfold RV at hv
   obtain ⟨b, es, clock, m1, m2, m3⟩ := (show MapOK w (κ ob).v l from h.ok ob _ hσ)
   have hkv := pairD_rv hi (he i)
   have hzr := fun F => constD_rd (w := w) hz F
   have hg := findM_get (q := k) hzr 0 m3
   have hfk := findKey_ok (P := P) u2 u3 (u4 w) k l es.toList m3
   have hck := checkKey_pair (P := P) (w := w) es.isEmpty u2 u3 (u4 w) k
   have hrun : ∃ v, (Instr.lookup t (ρ x) (ρ i) true).run P w = .ok (.tuple #[v, .bool (getM z k l).2]) w ∧ RD F w (getM z k l).1 v := by
    rw [hv.1, m1, hkv]
    unfold Instr.lookup
    simp only [Sem.run_bind, run_underlying u1, Result.andThen_ok, MapKept.run_getObj_map m2, Sem.run_pure, hck, hfk]
    cases hff : findM k l es.toList 0 with
    | none =>
     rw [hff] at hg
     simp only [] at hg
     refine ⟨E.zero, ?_, ?_⟩
     ·simp only [Sem.run_bind, run_zero' tokE, Result.andThen_ok, Sem.run_pure, hg]; simp
     ·rw [hg]; exact hzr F
    | some p =>
     obtain ⟨j, v⟩ := p
     rw [hff] at hg
     simp only [] at hg
     refine ⟨v, ?_, RD.mono (fun _ h => h.elim) (fun _ h => h.elim) hg.1⟩
     simp only [hg.2]; simp
   obtain ⟨v, hr, hrd⟩ := hrun
   refine out_val (v := .tuple #[v, .bool (getM z k l).2]) (w' := w) ?_ (sr_same h ?_ ?_)
   ·unfold execOp
    simp only [ho]
    exact exec_v _ hr
   ·unfold RV
    refine ⟨[v, .bool (getM z k l).2], rfl, ?_⟩
    unfold RVs
    refine ⟨_, _, rfl, by unfold RV; exact hrd, ?_⟩
    unfold RVs
    refine ⟨_, _, rfl, by unfold RV RD; exact ⟨rfl, rfl⟩, ?_⟩
    unfold RVs; rfl
   ·unfold NB NBs
    exact ⟨by unfold NB; trivial, by unfold NBs; exact ⟨by unfold NB; trivial, by unfold NBs; trivial⟩⟩
  ·intro hp; exact hp.elim
 ·intro hp; exact hp.elim

theorem sound_mapPut (hty : ∀ t x, ty t = some x → TyOK P t x) (h : ORel cx κ F w U σ) {o : Oper} {ρ : Operand → Value} {e : Operand → AV} (he : ∀ x, RV κ F w (e x) (ρ x)) {t : TypeId} {x i v : Operand} (ho : o.op = .mapUpdate t x i v) :
  Sound P cx κ F w U nm σ o ρ (mapPutSpec ty σ t (e x) (e i) (e v)) := by
 unfold mapPutSpec
 split
 ·rename_i E ob t' l k d hm hx hi hd
  split
  ·rename_i hfl
   intro _
   obtain ⟨kt, it, el, u1, u2, u3, u4, tokE⟩ := mapOf_some hty hm
   obtain ⟨hex, hσ⟩ := mpAt_some hx
   have hv := he x
   rw [hex] at hv
   unfold RV at hv
   obtain ⟨b, es, clock, m1, m2, m3⟩ := (show MapOK w (κ ob).v l from h.ok ob _ hσ)
   have hkv := pairD_rv hi (he i)
   have hdv := he v
   rw [hd] at hdv
   unfold RV at hdv
   have hdr := flB_rd hfl hdv
   have hfk := findKey_ok (P := P) u2 u3 (u4 w) k l es.toList m3
   have hck := checkKey_pair (P := P) (w := w) false u2 u3 (u4 w) k
   have hp := fun w' : World => findM_put (q := k) hdr (w' := w') 0 m3
   have hblk : ∀ b', Blk κ ob (.mp t' l) b' ↔ b' = b := by
    intro b'
    constructor
    ·rintro (h1 | h1)
     ·rw [m1] at h1; simp [blk] at h1; exact h1.symm
     ·exact h1.elim
    ·rintro rfl; exact .inl (by rw [m1]; rfl)
   have hlt : b < w.heap.size := heap_lt m2
   have hrun : ∃ es' clock', (Instr.mapUpdate t (ρ x) (ρ i) (ρ v)).run P w = .ok () { w with heap := w.heap.setIfInBounds b (.map es' clock') } ∧ ∀ w', MR w' (putM k d l) es'.toList := by
    rw [hv.1, m1, hkv]
    unfold Instr.mapUpdate
    simp only [Sem.run_bind, run_underlying u1, Result.andThen_ok, MapKept.run_getObj_map m2, hck, hfk]
    cases hff : findM k l es.toList 0 with
    | none =>
     simp only [hff] at hp
     refine ⟨_, _, by simp only [MapKept.run_setObj_map _ m2]; rfl, fun w' => ?_⟩
     have := hp w' clock
     simpa using this
    | some p =>
     obtain ⟨j, v0⟩ := p
     simp only [hff, Nat.sub_zero] at hp
     obtain ⟨_, ⟨e0, g1, g2⟩, _⟩ := hp w
     have g1' : es[j]? = some e0 := by simpa using g1
     have hsame : Instr.sameBits 10000 (pairV k) (pairV k) = true := by
      simp [Instr.sameBits]
     refine ⟨es.modify j fun e => { e with key := pairV k, val := ρ v }, clock, ?_, fun w' => ?_⟩
     ·simp only [g1', Option.map_some, Option.getD_some, g2, Instr.keyThatStays, hsame, if_true, Sem.run_bind, Sem.run_pure, Result.andThen_ok, MapKept.run_setObj_map _ m2]
     ·have := (hp w').2.2
      simpa using this
   obtain ⟨es', clock', hr, hmr⟩ := hrun
   refine out_skip (w' := { w with heap := w.heap.setIfInBounds b (.map es' clock') }) ?_ ⟨_, _, κ, F, ⟨rfl, rfl⟩, aft_write h hσ rfl rfl rfl (by simp) ?_ ?_ ?_ trivial, by unfold RV; rfl, by unfold NB; trivial⟩
   ·unfold execOp
    simp only [ho]
    exact exec_u _ hr
   ·intro b' hb' hne
    have : b ≠ b' := fun e => hne ((hblk b').2 e.symm)
    simp [this]
   ·intro b' hb'
    rcases hb' with hb' | hb'
    ·exact .inl hb'
    ·exact hb'.elim
   ·show MapOK _ (κ ob).v _
    exact ⟨b, es', clock', m1, by simp [hlt], hmr _⟩
  ·intro hp; exact hp.elim
 ·intro hp; exact hp.elim
end
end Go.Ab
