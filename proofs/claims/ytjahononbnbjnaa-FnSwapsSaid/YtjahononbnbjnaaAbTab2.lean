/- My own layer: tables: what their operations leave (2): reading. -/
import Derived.Test.YtjahononbnbjnaaAbTab
namespace Go.Ab
set_option linter.unusedVariables false
set_option linter.unusedSimpArgs false
section
variable {P : Program} {cx : Cx} {κ : Kap} {F : Nat → Prop} {w : World} {U : Nat → Prop} {nm : Nat} {σ : Objs} {ty : TypeId → Option TyE} {Γ : Nat → Option FnSpec}

theorem RVc_of_cells : ∀ {cs : List AV} {us : List Value}, us.length = cs.length → (∀ (j : Nat) (c : AV), cs[j]? = some c → ∃ x, us[j]? = some x ∧ one x = true ∧ RV κ F w c x) → RVc κ F w cs us
 | [], us, hl, _ => by unfold RVc; exact List.eq_nil_of_length_eq_zero (by simpa using hl)
 | c :: cs, [], hl, _ => by simp at hl
 | c :: cs, u :: us, hl, h => by
  obtain ⟨x, h1, h2, h3⟩ := h 0 c (by simp)
  simp at h1; subst h1
  unfold RVc
  exact ⟨u, us, rfl, h2, h3, RVc_of_cells (by simpa using hl) fun j c hj => by simpa using h (j + 1) c (by simpa using hj)⟩
theorem NBs_of : ∀ {cs : List AV}, (∀ c ∈ cs, NB U c) → NBs U cs
 | [], _ => by unfold NBs; trivial
 | c :: cs, h => by unfold NBs; exact ⟨h c (List.mem_cons_self ..), NBs_of fun x hx => h x (List.mem_cons_of_mem _ hx)⟩

theorem holeOff_at {hole : Option (Nat × Nat)} {j n k i : Nat} (h : holeOff hole j n = true) (hi : i < n) : hole ≠ some (k, j + i) := by
 intro e
 subst e
 simp only [holeOff, Bool.or_eq_true] at h
 rcases h with h | h
 ·have := by simpa [Nat.blt_eq] using h
  omega
 ·have := Nat.le_of_ble_eq_true h
  omega

theorem own_cells {e : TypeId} {es : Nat} {u : Value} {m : Nat} {us : List Value} (hown : Own w e es u m us) {b f n cap : Nat} (hu : u = .slice (some ⟨b, f, none⟩) n cap) :
  n = m ∧ ∀ (j : Nat) (v : Value), us[j]? = some v → w.cell? ⟨b, f + j, none⟩ = some v := by
 subst hu
 refine ⟨?_, fun j v hj => ?_⟩
 ·rcases hown.2 with ⟨h1, _⟩ | ⟨g, off, cap', cur, h1, _⟩
  ·simp at h1
  ·simp at h1; omega
 ·exact hown.cells rfl j v hj

theorem tab_cell {e : TypeId} {es : Nat} {mask : List (Option TypeId)} {l : List D} {u : Value} {hole : Option (Nat × Nat)} {g : Nat} (ht : TabOK F w e es mask l u (κ g).r hole) {us : List Value}
  (hc : ∀ (k : Nat) (d : D) (j : Nat) (c : D), l[k]? = some d → d.cells[j]? = some c → ∃ x, us[k * es + j]? = some x ∧ one x = true ∧ match maskAt mask j with
   | none => RD F w c x
   | some e' => x = (κ g).r k j ∧ (hole = some (k, j) ∨ ∃ es' rows, c = .sl es' rows ∧ ArrOK F w e' es' x rows)) (o : Nat) {k j : Nat} (hk : k < l.length) (hj : j < es) (hh : (maskAt mask j).isSome = true → hole ≠ some (k, j)) :
  ∃ x, us[k * es + j]? = some x ∧ one x = true ∧ RV κ F w (match maskAt mask j with | some _ => .row o g k j | none => .dat ((l.getD k (.sc undef)).cells.getD j (.sc undef))) x := by
 have hkd := getD_of_lt (d := D.sc undef) hk
 have hlen := ht.cells k _ hkd
 have hcd := getD_of_lt (d := D.sc undef) (l := (l.getD k (.sc undef)).cells) (k := j) (by omega)
 obtain ⟨x, h1, h2, h3⟩ := hc k _ j _ hkd hcd
 refine ⟨x, h1, h2, ?_⟩
 cases hm : maskAt mask j with
 | none => rw [hm] at h3; simp only [] at h3 ⊢; unfold RV; exact h3
 | some e' =>
  rw [hm] at h3
  simp only [] at h3 ⊢
  unfold RV; exact ⟨h3.1, h2⟩

theorem sound_tabLoad (hty : ∀ t x, ty t = some x → TyOK P t x) (h : ORel cx κ F w U σ) {o : Oper} {ρ : Operand → Value} {e : Operand → AV} (he : ∀ x, RV κ F w (e x) (ρ x)) {t : TypeId} {x : Operand} (ho : o.op = .load t x) {T : TyE} {ob es k j : Nat} (hT : ty t = some T) (hex : e x = .eref ob es k j) :
  Sound P cx κ F w U nm σ o ρ (tabLoad σ T ob es k j) := by
 have tok := hty t T hT
 have hx := he x
 rw [hex] at hx; unfold RV at hx
 obtain ⟨b, f, n, cap, hk, hρ⟩ := hx
 unfold tabLoad
 split
 ·rename_i e' es' mask l g hole hob
  have ht : TabOK F w e' es' mask l (κ ob).v (κ g).r hole := h.ok ob _ hob
  obtain ⟨us, hown, hul, hc⟩ := ht.mem
  obtain ⟨_, hcells⟩ := own_cells hown hk
  have hnb := h.nb ob _ hob
  have hnr : ∀ j, NB U (match maskAt mask j with | some _ => AV.row ob g k j | none => .dat ((l.getD k (.sc undef)).cells.getD j (.sc undef))) := fun j => by
   split
   ·unfold NB; exact ⟨hnb.1, hnb.2⟩
   ·unfold NB; trivial
  split
  ·rename_i hes
   subst hes
   split
   ·rename_i hg
    split
    ·rename_i hh
     intro hp
     obtain ⟨p1, p2⟩ := (show _ ∧ _ from hp)
     have hbd : (k + 1) * es ≤ l.length * es := Nat.mul_le_mul_right _ p1
     have hbd' : (k + 1) * es = k * es + es := by rw [Nat.add_mul, Nat.one_mul]
     have hrv : RVc κ F w (tabCells ob g k mask (l.getD k (.sc undef)) j T.size) ((us.drop (k * es + j)).take T.size) := by
      refine RVc_of_cells (by rw [List.length_take, List.length_drop, hul]; unfold tabCells; rw [List.length_map, List.length_range]; omega) fun i c hi => ?_
      unfold tabCells at hi
      rw [List.getElem?_map] at hi
      have hil : i < T.size := Classical.byContradiction fun hn => by
       rw [List.getElem?_eq_none (by simpa using Nat.le_of_not_lt hn)] at hi; cases hi
      rw [List.getElem?_range hil] at hi
      simp only [Option.map_some, Option.some.injEq] at hi
      subst hi
      obtain ⟨x, h1, h2, h3⟩ := tab_cell ht hc ob (j := j + i) p1 (by omega) fun _ => holeOff_at hh hil
      refine ⟨x, ?_, h2, h3⟩
      rw [List.getElem?_take_of_lt hil, List.getElem?_drop, ← h1]
      congr 1; omega
     refine out_val (exec_load ho hρ (run_loadVar_agg tok hg (us := (us.drop (k * es + j)).take T.size) ?_ ?_)) (sr_same h (rv_mkAgg hrv) (mkAgg_nb (NBs_of fun c hc' => ?_)))
     ·rw [List.length_take, List.length_drop, hul]; omega
     ·intro i u hi
      rw [Nat.add_assoc]
      refine hcells _ u ?_
      rw [List.getElem?_take] at hi
      split at hi
      ·rw [List.getElem?_drop] at hi; exact hi
      ·cases hi
     ·unfold tabCells at hc'
      obtain ⟨i, _, rfl⟩ := List.mem_map.1 hc'
      exact hnr (j + i)
    ·intro hp; exact hp.elim
   ·rename_i hg
    have key : k < l.length → j < es → ((maskAt mask j).isSome = true → hole ≠ some (k, j)) → ∀ {rd : List Nat} {p : Prop}, Out P o ρ w (SR cx κ F w U nm σ (.det p rd (match maskAt mask j with | some _ => .row ob g k j | none => .dat ((l.getD k (.sc undef)).cells.getD j (.sc undef))) [])) := by
     intro p1 p2 p3 rd p
     obtain ⟨u, u1, u2, u3⟩ := tab_cell ht hc ob p1 p2 p3
     exact out_val (exec_load ho hρ (run_loadVar_one tok (by simpa using hg) (u := u) (hcells _ u u1))) (sr_same h u3 (hnr j))
    split
    ·rename_i hm
     intro hp
     obtain ⟨p1, p2⟩ := (show _ ∧ _ from hp)
     have := key p1 p2 (by rw [hm]; simp) (rd := [ob]) (p := k < l.length ∧ j < es)
     rw [hm] at this
     exact this
    ·rename_i e2 hm
     split
     ·rename_i hh
      intro hp
      obtain ⟨p1, p2⟩ := (show _ ∧ _ from hp)
      have := key p1 p2 (fun _ => by simpa using holeOff_at (k := k) (i := 0) hh (by omega)) (rd := [ob]) (p := k < l.length ∧ j < es)
      rw [hm] at this
      exact this
     ·intro hp; exact hp.elim
  ·intro hp; exact hp.elim
 ·intro hp; exact hp.elim

theorem tabAt_some {o g : Nat} {t : TabV} (h : tabAt σ o g = some t) : σ o = some (.tab t.e t.es t.mask t.l g t.hole) := by
 unfold tabAt at h
 split at h
 ·rename_i e es mask l g' hole hob
  split at h
  ·rename_i hg
   subst hg
   cases h
   exact hob
  ·cases h
 ·cases h

theorem row_of (h : ORel cx κ F w U σ) {o g k j : Nat} {t : TabV} (ht : tabAt σ o g = some t) (hk : k < t.l.length) (hm : (maskAt t.mask j).isSome = true) (hh : holeOff t.hole j 1 = true) :
  ∃ e', maskAt t.mask j = some e' ∧ ArrOK F w e' (rowOf t.l k j).1 ((κ g).r k j) (rowOf t.l k j).2 ∧ (t.l.getD k (.sc undef)).cells[j]? = some (.sl (rowOf t.l k j).1 (rowOf t.l k j).2) ∧ isRow t.mask t.l.length t.hole k j := by
 have hob := tabAt_some ht
 have hr : isRow t.mask t.l.length t.hole k j := ⟨hk, hm, by simpa using holeOff_at (k := k) (i := 0) hh (by omega)⟩
 have hok : TabOK F w t.e t.es t.mask t.l (κ o).v (κ g).r t.hole := h.ok o _ hob
 obtain ⟨d, e', es', rows, h1, h2, h3, h4⟩ := hok.row hr
 have hd : t.l.getD k (.sc undef) = d := by rw [List.getD_eq_getElem?_getD, h1]; rfl
 have hro : rowOf t.l k j = (es', rows) := by
  unfold rowOf rowD
  rw [hd, List.getD_eq_getElem?_getD, h3]; rfl
 rw [hro, hd]
 exact ⟨e', h2, h4, h3, hr⟩

theorem sound_rowLen (h : ORel cx κ F w U σ) {o : Oper} {ρ : Operand → Value} {e : Operand → AV} (he : ∀ x, RV κ F w (e x) (ρ x)) {x : Operand} {t : TypeId} (ho : o.op = .call { callee := .builtin .len, args := #[x], argTypes := #[t] })
  {ob g k j : Nat} (hu : ∃ el, P.underlying t = some (.slice el)) (hex : e x = .row ob g k j) : Sound P cx κ F w U nm σ o ρ (rowLen σ ob g k j) := by
 obtain ⟨el, hu⟩ := hu
 have run : ∀ v, (Builtin.len_ #[t] o.type #[ρ x]).run P w = .ok v w → (execOp ρ o).run P w = .ok (.value v) w := by
  intro v hv
  unfold execOp
  simp only [ho, resolve, invoke, builtin, Sem.run_bind, Sem.run_pure, Result.andThen_ok, List.map_toArray, List.map_cons, List.map_nil, hv]
 have run2 : ∀ a n cap, ρ x = .slice a n cap → (execOp ρ o).run P w = .ok (.value (.int .i64 n)) w := fun a n cap hρ => run _ (by
  rw [hρ]
  simp only [Builtin.len_, List.getElem?_toArray, List.getElem?_cons_zero, Sem.run_bind, run_underlying hu, Result.andThen_ok, goInt, Sem.run_pure])
 have hx := he x
 rw [hex] at hx; unfold RV at hx
 unfold rowLen
 split
 ·rename_i t' ht
  split
  ·rename_i hc
   refine fun hp => (sound_det h rfl fun hp => ?_) hp
   obtain ⟨e', _, ⟨us, hown, _⟩, _⟩ := row_of h ht hp hc.2 hc.1
   rcases hown.2 with ⟨g1, g2⟩ | ⟨g', off, cap, cur, g1, _⟩
   ·rw [g2]; exact run2 _ _ _ (by rw [hx.1, g1])
   ·exact run2 _ _ _ (by rw [hx.1, g1])
  ·intro hp; exact hp.elim
 ·intro hp; exact hp.elim

theorem sound_rowIndex (hty : ∀ t x, ty t = some x → TyOK P t x) (h : ORel cx κ F w U σ) {o : Oper} {ρ : Operand → Value} {e : Operand → AV} (he : ∀ x, RV κ F w (e x) (ρ x)) (hn : ∀ x, NB U (e x)) {t : TypeId} {x i : Operand} (ho : o.op = .indexAddr t x i)
  {el : TypeId} {E : TyE} {kk : IntKind} {n : Int} {ob g k j : Nat} (hel : elemOf ty t = some (el, E)) (hi : isInt (e i) = some (kk, n)) (hex : e x = .row ob g k j) : Sound P cx κ F w U nm σ o ρ (rowIndex σ E ob g k j n) := by
 obtain ⟨hu, tok⟩ := elemOf_some hty hel
 have vi := rv_int hi (he i)
 have run : ∀ (b : Nat) (off len cap : Nat), ρ x = .slice (some ⟨b, off, none⟩) len cap → 0 ≤ n → n < len → (execOp ρ o).run P w = .ok (.value (.pointer (some ⟨b, off + n.toNat * E.size, none⟩))) w := by
  intro b off len cap hρ h0 h1
  unfold execOp
  simp only [ho]
  refine exec_v _ ?_
  have hc : 0 ≤ n ∧ n < (len : Int) := ⟨h0, h1⟩
  simp only [Instr.indexAt, hρ, vi, asIntOf, Sem.run_bind, Sem.run_pure, Result.andThen_ok, run_underlying hu, hc, and_self, if_true, run_sizeOf' tok, addr_add]
 have hx := he x
 have hnx := hn x
 rw [hex] at hx hnx; unfold RV at hx
 unfold rowIndex
 split
 ·rename_i t' ht
  split
  ·rename_i hc
   intro hp
   obtain ⟨p1, p2, p3, p4⟩ := (show _ ∧ _ ∧ _ ∧ _ from hp)
   obtain ⟨e', _, ⟨us, hown, _⟩, _⟩ := row_of h ht p1 hc.2 hc.1
   rcases hown.2 with ⟨g1, g2⟩ | ⟨g', off, cap, cur, g1, _⟩
   ·omega
   ·refine out_val (run g' off _ cap (by rw [hx.1, g1]) p3 p4) (sr_same h ?_ ?_)
    ·unfold RV
     exact ⟨g', _, _, _, g1, by rw [Nat.add_zero]⟩
    ·unfold NB at hnx ⊢; exact hnx
  ·intro hp; exact hp.elim
 ·intro hp; exact hp.elim

theorem sound_rowLoad (hty : ∀ t x, ty t = some x → TyOK P t x) (h : ORel cx κ F w U σ) {o : Oper} {ρ : Operand → Value} {e : Operand → AV} (he : ∀ x, RV κ F w (e x) (ρ x)) {t : TypeId} {x : Operand} (ho : o.op = .load t x) {T : TyE} {ob g k j es i c : Nat} (hT : ty t = some T) (hex : e x = .rref ob g k j es i c) :
  Sound P cx κ F w U nm σ o ρ (rowLoad σ T ob g k j es i c) := by
 have tok := hty t T hT
 have hx := he x
 rw [hex] at hx; unfold RV at hx
 obtain ⟨b, f, n, cap, hk, hρ⟩ := hx
 unfold rowLoad
 split
 ·rename_i t' ht
  split
  ·rename_i hc
   split
   ·rename_i hg
    intro hp
    obtain ⟨p1, p2, p3, p4⟩ := (show _ ∧ _ ∧ _ ∧ _ from hp)
    obtain ⟨e', _, ⟨us, hown, hre, _⟩, _⟩ := row_of h ht p1 hc.2 hc.1
    rw [p2] at hown hre
    obtain ⟨_, hcells⟩ := own_cells hown hk
    obtain ⟨r1, r2⟩ := RE.at i _ hre (getD_of_lt (d := .sc undef) p3)
    refine out_val (exec_load ho hρ (run_loadVar_agg tok hg (us := (((us.drop (i * es)).take es).drop c).take T.size) ?_ ?_)) (sr_same h (rv_agg ((r1.drop c).take T.size)) (dat_nb _))
    ·rw [List.length_take, List.length_drop, r2]; omega
    ·intro q u hq
     rw [Nat.add_assoc]
     refine hcells _ u ?_
     rw [List.getElem?_take] at hq
     split at hq
     ·rw [List.getElem?_drop, List.getElem?_take] at hq
      split at hq
      ·rw [List.getElem?_drop] at hq; rw [Nat.add_assoc]; exact hq
      ·cases hq
     ·cases hq
   ·rename_i hg
    intro hp
    obtain ⟨p1, p2, p3, p4⟩ := (show _ ∧ _ ∧ _ ∧ _ from hp)
    obtain ⟨e', _, ⟨us, hown, hre, _⟩, _⟩ := row_of h ht p1 hc.2 hc.1
    rw [p2] at hown hre
    obtain ⟨_, hcells⟩ := own_cells hown hk
    obtain ⟨r1, r2⟩ := RE.at i _ hre (getD_of_lt (d := .sc undef) p3)
    have hlen := r1.length
    obtain ⟨u, u1, u2, u3⟩ := RC.at c _ r1 (getD_of_lt (d := .sc undef) (by omega))
    refine out_val (exec_load ho hρ (run_loadVar_one tok (by simpa using hg) (u := u) (hcells _ u ?_))) (sr_same h (by unfold RV; exact u3) (dat_nb _))
    rw [List.getElem?_take_of_lt p4, List.getElem?_drop] at u1
    exact u1
  ·intro hp; exact hp.elim
 ·intro hp; exact hp.elim

end
end Go.Ab
