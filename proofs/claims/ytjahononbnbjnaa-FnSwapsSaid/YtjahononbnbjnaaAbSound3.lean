/- My own layer, sixth part: memory. -/
import Derived.Test.YtjahononbnbjnaaAbSound2
namespace Go.Ab
set_option linter.unusedVariables false
set_option linter.unusedSimpArgs false
section
variable {P : Program} {cx : Cx} {κ : Kap} {F : Nat → Prop} {w : World} {U : Nat → Prop} {nm : Nat} {σ : Objs} {ty : TypeId → Option TyE} {Γ : Nat → Option FnSpec}

theorem one_eq (v : Value) : v.oneCell' = one v := by cases v <;> rfl

theorem RVc.length : ∀ {l : List AV} {us : List Value}, RVc κ F w l us → us.length = l.length
 | [], us, h => by unfold RVc at h; subst h; rfl
 | d :: ds, us, h => by
  unfold RVc at h
  obtain ⟨u, us', rfl, _, _, h4⟩ := h
  simp [RVc.length h4]

theorem RVc.drop : ∀ (n : Nat) {l : List AV} {us : List Value}, RVc κ F w l us → RVc κ F w (l.drop n) (us.drop n)
 | 0, l, us, h => h
 | n + 1, [], us, h => by unfold RVc at h; subst h; simp only [List.drop_nil]; unfold RVc; rfl
 | n + 1, d :: ds, us, h => by
  unfold RVc at h
  obtain ⟨u, us', rfl, _, _, h4⟩ := h
  simpa using RVc.drop n h4
theorem RVc.take : ∀ (n : Nat) {l : List AV} {us : List Value}, RVc κ F w l us → RVc κ F w (l.take n) (us.take n)
 | 0, l, us, h => by simp only [List.take_zero]; unfold RVc; rfl
 | n + 1, [], us, h => by unfold RVc at h; subst h; simp only [List.take_nil]; unfold RVc; rfl
 | n + 1, d :: ds, us, h => by
  unfold RVc at h
  obtain ⟨u, us', rfl, h2, h3, h4⟩ := h
  simp only [List.take_succ_cons]
  unfold RVc
  exact ⟨u, _, rfl, h2, h3, RVc.take n h4⟩
theorem RVc.app : ∀ {l l' : List AV} {us us' : List Value}, RVc κ F w l us → RVc κ F w l' us' → RVc κ F w (l ++ l') (us ++ us')
 | [], l', us, us', h, h' => by unfold RVc at h; subst h; exact h'
 | d :: ds, l', us, us', h, h' => by
  unfold RVc at h
  obtain ⟨u, us2, rfl, h2, h3, h4⟩ := h
  simp only [List.cons_append]
  unfold RVc
  exact ⟨u, _, rfl, h2, h3, RVc.app h4 h'⟩
theorem RVc.at : ∀ {l : List AV} {us : List Value} (i : Nat) (x : AV), RVc κ F w l us → l[i]? = some x → ∃ u, us[i]? = some u ∧ one u = true ∧ RV κ F w x u
 | [], _, i, x, _, hi => by simp at hi
 | d :: ds, us, 0, x, h, hi => by
  unfold RVc at h
  obtain ⟨u, us2, rfl, h2, h3, h4⟩ := h
  simp at hi; subst hi
  exact ⟨u, by simp, h2, h3⟩
 | d :: ds, us, i + 1, x, h, hi => by
  unfold RVc at h
  obtain ⟨u, us2, rfl, h2, h3, h4⟩ := h
  simpa using RVc.at i x h4 (by simpa using hi)
theorem RVc.ones : ∀ {l : List AV} {us : List Value}, RVc κ F w l us → ∀ u ∈ us, one u = true
 | [], us, h => by unfold RVc at h; subst h; simp
 | d :: ds, us, h => by
  unfold RVc at h
  obtain ⟨u, us2, rfl, h2, h3, h4⟩ := h
  intro v hv
  rcases List.mem_cons.1 hv with rfl | hv
  ·exact h2
  ·exact RVc.ones h4 v hv

theorem NBs.drop : ∀ (n : Nat) {l : List AV}, NBs U l → NBs U (l.drop n)
 | 0, l, h => h
 | n + 1, [], h => by simpa using h
 | n + 1, d :: ds, h => by unfold NBs at h; simpa using NBs.drop n h.2
theorem NBs.take : ∀ (n : Nat) {l : List AV}, NBs U l → NBs U (l.take n)
 | 0, l, h => by simp only [List.take_zero]; unfold NBs; trivial
 | n + 1, [], h => by simpa using h
 | n + 1, d :: ds, h => by unfold NBs at h; simp only [List.take_succ_cons]; unfold NBs; exact ⟨h.1, NBs.take n h.2⟩
theorem NBs.app : ∀ {l l' : List AV}, NBs U l → NBs U l' → NBs U (l ++ l')
 | [], l', h, h' => h'
 | d :: ds, l', h, h' => by unfold NBs at h; simp only [List.cons_append]; unfold NBs; exact ⟨h.1, NBs.app h.2 h'⟩
theorem NBs.at : ∀ {l : List AV} (i : Nat) (x : AV), NBs U l → l[i]? = some x → NB U x
 | [], i, x, _, hi => by simp at hi
 | d :: ds, 0, x, h, hi => by unfold NBs at h; simp at hi; subst hi; exact h.1
 | d :: ds, i + 1, x, h, hi => by unfold NBs at h; exact NBs.at i x h.2 (by simpa using hi)

theorem RC.drop : ∀ (n : Nat) {l : List D} {us : List Value}, RC F w l us → RC F w (l.drop n) (us.drop n)
 | 0, l, us, h => h
 | n + 1, [], us, h => by unfold RC at h; subst h; simp only [List.drop_nil]; unfold RC; rfl
 | n + 1, d :: ds, us, h => by
  unfold RC at h
  obtain ⟨u, us', rfl, _, _, h4⟩ := h
  simpa using RC.drop n h4
theorem RC.take : ∀ (n : Nat) {l : List D} {us : List Value}, RC F w l us → RC F w (l.take n) (us.take n)
 | 0, l, us, h => by simp only [List.take_zero]; unfold RC; rfl
 | n + 1, [], us, h => by unfold RC at h; subst h; simp only [List.take_nil]; unfold RC; rfl
 | n + 1, d :: ds, us, h => by
  unfold RC at h
  obtain ⟨u, us', rfl, h2, h3, h4⟩ := h
  simp only [List.take_succ_cons]
  unfold RC
  exact ⟨u, _, rfl, h2, h3, RC.take n h4⟩
theorem RC.app : ∀ {l l' : List D} {us us' : List Value}, RC F w l us → RC F w l' us' → RC F w (l ++ l') (us ++ us')
 | [], l', us, us', h, h' => by unfold RC at h; subst h; exact h'
 | d :: ds, l', us, us', h, h' => by
  unfold RC at h
  obtain ⟨u, us2, rfl, h2, h3, h4⟩ := h
  simp only [List.cons_append]
  unfold RC
  exact ⟨u, _, rfl, h2, h3, RC.app h4 h'⟩
theorem RC.at : ∀ {l : List D} {us : List Value} (i : Nat) (x : D), RC F w l us → l[i]? = some x → ∃ u, us[i]? = some u ∧ one u = true ∧ RD F w x u
 | [], _, i, x, _, hi => by simp at hi
 | d :: ds, us, 0, x, h, hi => by
  unfold RC at h
  obtain ⟨u, us2, rfl, h2, h3, h4⟩ := h
  simp at hi; subst hi
  exact ⟨u, by simp, h2, h3⟩
 | d :: ds, us, i + 1, x, h, hi => by
  unfold RC at h
  obtain ⟨u, us2, rfl, h2, h3, h4⟩ := h
  simpa using RC.at i x h4 (by simpa using hi)
theorem RC.ones : ∀ {l : List D} {us : List Value}, RC F w l us → ∀ u ∈ us, one u = true
 | [], us, h => by unfold RC at h; subst h; simp
 | d :: ds, us, h => by
  unfold RC at h
  obtain ⟨u, us2, rfl, h2, h3, h4⟩ := h
  intro v hv
  rcases List.mem_cons.1 hv with rfl | hv
  ·exact h2
  ·exact RC.ones h4 v hv
theorem RE.ones {es : Nat} : ∀ {l : List D} {us : List Value}, RE F w es l us → ∀ u ∈ us, one u = true
 | [], us, h => by unfold RE at h; subst h; simp
 | d :: ds, us, h => by
  obtain ⟨u, us2, rfl, h2, h3, h4⟩ := h.cons
  intro v hv
  rcases List.mem_append.1 hv with hv | hv
  ·exact RC.ones h3 v hv
  ·exact RE.ones h4 v hv

theorem exec_load {o : Oper} {ρ : Operand → Value} {t : TypeId} {x : Operand} (ho : o.op = .load t x) {a : Addr} (hx : ρ x = .pointer (some a)) {v : Value} (hr : (loadVar t a).run P w = .ok v w) :
  (execOp ρ o).run P w = .ok (.value v) w := by
 unfold execOp
 simp only [ho]
 refine exec_v _ ?_
 simp only [Instr.loadAt, Instr.sureAddr, hx, Sem.run_bind, Sem.run_pure, Result.andThen_ok, hr]

theorem run_loadVar_agg {t : TypeId} {x : TyE} (h : TyOK P t x) (hg : x.isAgg = true) {b off : Nat} {us : List Value} (hl : us.length = x.size) (hc : ∀ j u, us[j]? = some u → w.cell? ⟨b, off + j, none⟩ = some u) :
  (loadVar t ⟨b, off, none⟩).run P w = .ok (.agg us.toArray) w := by
 have := run_loadCells_list (P := P) w ⟨b, off, none⟩ us (fun j v hj => by rw [Addr.add_lit]; exact hc j v hj)
 rw [hl] at this
 simp only [loadVar, Sem.run_bind, run_isAgg' h, hg, Result.andThen_ok, if_true, run_sizeOf' h, this, Sem.run_pure]

theorem run_loadVar_one {t : TypeId} {x : TyE} (h : TyOK P t x) (hg : x.isAgg = false) {a : Addr} {u : Value} (hc : w.cell? a = some u) :
  (loadVar t a).run P w = .ok u w := by
 simp only [loadVar, Sem.run_bind, run_isAgg' h, hg, Result.andThen_ok, Bool.false_eq_true, if_false, run_load, hc]

theorem rv_aggv {l : List AV} {us : List Value} (h : RVc κ F w l us) : RV κ F w (.aggv l) (.agg us.toArray) := by unfold RV; exact ⟨us, rfl, h⟩
theorem rv_agg {l : List D} {us : List Value} (h : RC F w l us) : RV κ F w (.dat (.agg l)) (.agg us.toArray) := by unfold RV RD; exact ⟨us, rfl, h⟩
theorem toDs_rc : ∀ {l : List AV} {ds : List D} {us : List Value}, toDs l = some ds → RVc κ F w l us → RC F w ds us
 | [], ds, us, h, hv => by simp only [toDs, Option.some.injEq] at h; subst h; unfold RVc at hv; unfold RC; exact hv
 | x :: l, ds, us, h, hv => by
  unfold toDs at h
  split at h
  ·rename_i d ds' h1 h2
   simp only [Option.some.injEq] at h; subst h
   unfold RVc at hv
   obtain ⟨u, us', rfl, g1, g2, g3⟩ := hv
   unfold RC
   refine ⟨u, us', rfl, g1, ?_, toDs_rc h2 g3⟩
   cases x with
   | dat d0 => simp only [AV.toD, Option.some.injEq] at h1; subst h1; unfold RV at g2; exact g2
   | _ => simp [AV.toD] at h1
  ·cases h
theorem rv_mkAgg {l : List AV} {us : List Value} (h : RVc κ F w l us) : RV κ F w (mkAgg l) (.agg us.toArray) := by
 unfold mkAgg
 split
 ·rename_i ds hd
  exact rv_agg (toDs_rc hd h)
 ·exact rv_aggv h
theorem mkAgg_nb {l : List AV} (h : NBs U l) : NB U (mkAgg l) := by
 unfold mkAgg
 split
 ·unfold NB; trivial
 ·unfold NB; exact h
theorem cell_arr {b : Nat} {arr : Array Value} {elem : TypeId} {fr : Nat × Nat} (h : w.heap[b]? = some (.cells arr elem fr)) (i : Nat) : w.cell? ⟨b, i, none⟩ = arr[i]? := cell_of_row w b i arr elem fr h

theorem arr_cells {o : Nat} {e : TypeId} {es : Nat} {l : List D} (h : ObjOK κ F w o (.arr e es l)) {b f n cap : Nat} (hk : (κ o).v = .slice (some ⟨b, f, none⟩) n cap) :
  ∃ us, RE F w es l us ∧ n = l.length ∧ (∀ j u, us[j]? = some u → w.cell? ⟨b, f + j, none⟩ = some u) := by
 obtain ⟨us, hown, hre, _⟩ := h
 refine ⟨us, hre, ?_, fun j u hj => ?_⟩
 ·rcases hown.2 with ⟨h1, _⟩ | ⟨g, off, cap', cur, h1, _⟩
  ·rw [hk] at h1; simp at h1
  ·rw [hk] at h1; simp at h1; omega
 ·exact hown.cells hk j u hj

theorem getD_of_lt {α : Type} {l : List α} {k : Nat} {d : α} (h : k < l.length) : l[k]? = some (l.getD k d) := by
 rw [List.getElem?_eq_getElem h, List.getD_eq_getElem?_getD, List.getElem?_eq_getElem h]; rfl

theorem sound_load (hty : ∀ t x, ty t = some x → TyOK P t x) (h : ORel cx κ F w U σ) {o : Oper} {ρ : Operand → Value} {e : Operand → AV} (he : ∀ x, RV κ F w (e x) (ρ x)) {t : TypeId} {x : Operand} (ho : o.op = .load t x)
  (htab : ∀ T ob es k j, ty t = some T → e x = .eref ob es k j → Sound P cx κ F w U nm σ o ρ (tabLoad σ T ob es k j)) (hrow : ∀ T ob g k j es i c, ty t = some T → e x = .rref ob g k j es i c → Sound P cx κ F w U nm σ o ρ (rowLoad σ T ob g k j es i c)) :
  Sound P cx κ F w U nm σ o ρ (spec ty Γ σ e nm o) := by
 have hs : spec ty Γ σ e nm o = loadSpec ty σ t (e x) := by unfold spec; simp only [ho]
 rw [hs]
 unfold loadSpec
 have hx := he x
 cases hT : ty t with
 | none => intro hp; exact hp.elim
 | some T =>
  have tok := hty t T hT
  simp only []
  split
  ·rename_i ob i hex
   rw [hex] at hx; unfold RV at hx
   obtain ⟨b, hk, hρ⟩ := hx
   split
   ·rename_i l hob
    obtain ⟨b', arr, k1, k2, k3⟩ := h.ok ob _ hob
    rw [hk] at k1; simp at k1; subst k1
    have hn := (h.nb ob _ hob).2
    have hlen := k3.length
    split
    ·rename_i hg
     split
     ·rename_i hle
      intro _
      refine out_val (exec_load ho hρ (run_loadVar_agg tok hg (us := (arr.toList.drop i).take T.size) ?_ ?_)) (sr_same h (rv_mkAgg ((k3.drop i).take T.size)) (mkAgg_nb ((NBs.drop i hn).take T.size)))
      ·rw [List.length_take, List.length_drop]; omega
      ·intro j u hj
       rw [cell_arr k2]
       rw [List.getElem?_take] at hj
       split at hj
       ·rw [List.getElem?_drop] at hj; simpa using hj
       ·cases hj
     ·intro hp; exact hp.elim
    ·rename_i hg
     split
     ·rename_i v hv
      intro _
      obtain ⟨u, h1, h2, h3⟩ := RVc.at i v k3 hv
      exact out_val (exec_load ho hρ (run_loadVar_one tok (by simpa using hg) (u := u) (by rw [cell_arr k2]; simpa using h1))) (sr_same h h3 (NBs.at i v hn hv))
     ·intro hp; exact hp.elim
   ·intro hp; exact hp.elim
  ·rename_i ob es k j hex
   rw [hex] at hx; unfold RV at hx
   obtain ⟨b, f, n, cap, hk, hρ⟩ := hx
   split
   ·rename_i e' es' l hob
    split
    ·rename_i hes
     subst hes
     obtain ⟨us, hre, _, hcells⟩ := arr_cells (h.ok ob _ hob) hk
     split
     ·rename_i hg
      intro hp
      obtain ⟨hk1, hk2⟩ := (show _ ∧ _ from hp)
      obtain ⟨r1, r2⟩ := RE.at k _ hre (getD_of_lt (d := .sc undef) hk1)
      refine out_val (exec_load ho hρ (run_loadVar_agg tok hg (us := (((us.drop (k * es)).take es).drop j).take T.size) ?_ ?_)) (sr_same h (rv_agg ((r1.drop j).take T.size)) (dat_nb _))
      ·rw [List.length_take, List.length_drop, r2]; omega
      ·intro i u hi
       rw [Nat.add_assoc]
       refine hcells _ u ?_
       rw [List.getElem?_take] at hi
       split at hi
       ·rw [List.getElem?_drop, List.getElem?_take] at hi
        split at hi
        ·rw [List.getElem?_drop] at hi; rw [Nat.add_assoc]; exact hi
        ·cases hi
       ·cases hi
     ·rename_i hg
      intro hp
      obtain ⟨hk1, hk2⟩ := (show _ ∧ _ from hp)
      obtain ⟨r1, r2⟩ := RE.at k _ hre (getD_of_lt (d := .sc undef) hk1)
      have hlen := r1.length
      obtain ⟨u, u1, u2, u3⟩ := RC.at j _ r1 (getD_of_lt (d := .sc undef) (by omega))
      refine out_val (exec_load ho hρ (run_loadVar_one tok (by simpa using hg) (u := u) (hcells _ u ?_))) (sr_same h (by unfold RV; exact u3) (dat_nb _))
      rw [List.getElem?_take_of_lt hk2, List.getElem?_drop] at u1
      exact u1
    ·intro hp; exact hp.elim
   ·exact htab T ob es k j hT hex
   ·intro hp; exact hp.elim
  ·rename_i ob g k j es i c hex
   exact hrow T ob g k j es i c hT hex
  ·rename_i ds hex
   rw [hex] at hx; unfold RV at hx
   obtain ⟨b, off, us, hρ, hF, hcells, hrc⟩ := hx
   have hlen := hrc.length
   split
   ·rename_i hg
    intro hp
    have hp' : T.size ≤ ds.length := hp
    refine out_val (exec_load ho hρ (run_loadVar_agg tok hg (us := us.take T.size) ?_ ?_)) (sr_same h (rv_agg (hrc.take T.size)) (dat_nb _))
    ·rw [List.length_take]; omega
    ·intro j u hj
     rw [List.getElem?_take] at hj
     split at hj
     ·exact hcells j u hj
     ·cases hj
   ·rename_i hg
    split
    ·rename_i d rest
     intro _
     obtain ⟨u, u1, u2, u3⟩ := RC.at 0 d hrc (by simp)
     refine out_val (exec_load ho hρ (run_loadVar_one tok (by simpa using hg) (u := u) (by simpa using hcells 0 u u1))) (sr_same h (by unfold RV; exact u3) (dat_nb _))
    ·intro hp; exact hp.elim
  ·intro hp; exact hp.elim

theorem addr_add (b i n : Nat) : Addr.add ⟨b, i, none⟩ n = ⟨b, i + n, none⟩ := Addr.add_lit b i n

theorem sound_field (hty : ∀ t x, ty t = some x → TyOK P t x) (h : ORel cx κ F w U σ) {o : Oper} {ρ : Operand → Value} {e : Operand → AV} (he : ∀ x, RV κ F w (e x) (ρ x)) (hn : ∀ x, NB U (e x)) {s : TypeId} {x : Operand} {f : Nat} (ho : o.op = .fieldAddr s x f) :
  Sound P cx κ F w U nm σ o ρ (spec ty Γ σ e nm o) := by
 have hs : spec ty Γ σ e nm o = fieldSpec ty s (e x) f := by unfold spec; simp only [ho]
 rw [hs]
 unfold fieldSpec
 cases hf : fieldOf ty s f with
 | none => intro hp; exact hp.elim
 | some off =>
  have run : ∀ b i, ρ x = .pointer (some ⟨b, i, none⟩) → (execOp ρ o).run P w = .ok (.value (.pointer (some ⟨b, i + off, none⟩))) w := by
   intro b i hρ
   unfold fieldOf at hf
   split at hf
   ·rename_i size fs bytes zero hts
    split at hf
    ·rename_i fd hfd
     split at hf
     ·rename_i T hT
      split at hf
      ·cases hf
      ·rename_i hz
       simp only [Option.some.injEq] at hf
       unfold execOp
       simp only [ho]
       refine exec_v _ ?_
       have hu := (hty _ _ hts).1
       simp only [Instr.fieldAt, Sem.run_bind, run_underlying hu, Result.andThen_ok, hfd, Instr.sureAddr, hρ, Sem.run_pure, fieldPlace, run_sizeOf' (hty _ _ hT), hz, if_false, addr_add, hf]
     ·cases hf
    ·cases hf
   ·cases hf
  simp only []
  have hx := he x
  have hnx := hn x
  split
  ·rename_i ob i hex
   rw [hex] at hx hnx; unfold RV at hx
   obtain ⟨b, hk, hρ⟩ := hx
   intro _
   refine out_val (run _ _ hρ) (sr_same h ?_ ?_)
   ·unfold RV; exact ⟨b, hk, rfl⟩
   ·unfold NB at hnx ⊢; exact hnx
  ·rename_i ob es k j hex
   rw [hex] at hx hnx; unfold RV at hx
   obtain ⟨b, f, n, cap, hk, hρ⟩ := hx
   intro _
   refine out_val (run _ _ hρ) (sr_same h ?_ ?_)
   ·unfold RV; exact ⟨b, f, n, cap, hk, by simp only [Nat.add_assoc]⟩
   ·unfold NB at hnx ⊢; exact hnx
  ·rename_i ob g k j es i c hex
   rw [hex] at hx hnx; unfold RV at hx
   obtain ⟨b, f, n, cap, hk, hρ⟩ := hx
   intro _
   refine out_val (run _ _ hρ) (sr_same h ?_ ?_)
   ·unfold RV; exact ⟨b, f, n, cap, hk, by simp only [Nat.add_assoc]⟩
   ·unfold NB at hnx ⊢; exact hnx
  ·rename_i ds hex
   rw [hex] at hx; unfold RV at hx
   obtain ⟨b, i, us, hρ, hF, hcells, hrc⟩ := hx
   intro _
   refine out_val (run _ _ hρ) (sr_same h ?_ (by unfold NB; trivial))
   unfold RV
   refine ⟨b, i + off, us.drop off, rfl, hF, fun j u hj => ?_, hrc.drop off⟩
   rw [List.getElem?_drop] at hj
   rw [Nat.add_assoc]; exact hcells _ u hj
  ·intro hp; exact hp.elim

theorem elemOf_some (hty : ∀ t x, ty t = some x → TyOK P t x) {t e : TypeId} {E : TyE} (h : elemOf ty t = some (e, E)) : P.underlying t = some (.slice e) ∧ TyOK P e E := by
 unfold elemOf at h
 split at h
 ·rename_i hts
  split at h
  ·rename_i E' hE
   simp only [Option.some.injEq, Prod.mk.injEq] at h
   obtain ⟨rfl, rfl⟩ := h
   exact ⟨(hty _ _ hts).1, hty _ _ hE⟩
  ·cases h
 ·cases h

theorem sound_index (hty : ∀ t x, ty t = some x → TyOK P t x) (h : ORel cx κ F w U σ) {o : Oper} {ρ : Operand → Value} {e : Operand → AV} (he : ∀ x, RV κ F w (e x) (ρ x)) (hn : ∀ x, NB U (e x)) {t : TypeId} {x i : Operand} (ho : o.op = .indexAddr t x i)
  (hrow : ∀ el E kk n ob g k j, elemOf ty t = some (el, E) → isInt (e i) = some (kk, n) → e x = .row ob g k j → Sound P cx κ F w U nm σ o ρ (rowIndex σ E ob g k j n)) :
  Sound P cx κ F w U nm σ o ρ (spec ty Γ σ e nm o) := by
 have hs : spec ty Γ σ e nm o = indexSpec ty σ t (e x) (e i) := by unfold spec; simp only [ho]
 rw [hs]
 unfold indexSpec
 split
 ·rename_i el E k n hel hi
  obtain ⟨hu, tok⟩ := elemOf_some hty hel
  have vi := rv_int hi (he i)
  have run : ∀ (b : Nat) (off len cap : Nat), ρ x = .slice (some ⟨b, off, none⟩) len cap → 0 ≤ n → n < len → (execOp ρ o).run P w = .ok (.value (.pointer (some ⟨b, off + n.toNat * E.size, none⟩))) w := by
   intro b off len cap hρ h0 h1
   unfold execOp
   simp only [ho]
   refine exec_v _ ?_
   have hc : 0 ≤ n ∧ n < (len : Int) := ⟨h0, h1⟩
   simp only [Instr.indexAt, hρ, vi, asIntOf, Sem.run_bind, Sem.run_pure, Result.andThen_ok, run_underlying hu, hc, and_self, if_true, run_sizeOf' tok, addr_add]
  have hx := he x
  have hnx := hn x
  split
  ·rename_i es l hex
   rw [hex] at hx; unfold RV RD at hx
   obtain ⟨a, cap, hρ, h1, h2, h3, h4⟩ := hx
   split
   ·rename_i hes
    intro hp
    obtain ⟨p1, p2⟩ := (show _ ∧ _ from hp)
    have hlt : n.toNat < l.length := by omega
    rcases h4 with rfl | ⟨b, off, us, rfl, hF, hlen, hcells, hre⟩
    ·simp at hlt
    ·obtain ⟨r1, r2⟩ := RE.at n.toNat _ hre (getD_of_lt (d := .sc undef) hlt)
     refine out_val (run _ _ _ _ hρ p1 p2) (sr_same h ?_ (by unfold NB; trivial))
     unfold RV
     refine ⟨b, _, _, rfl, hF, fun j u hj => ?_, r1⟩
     rw [List.getElem?_take] at hj
     split at hj
     ·rw [List.getElem?_drop] at hj
      rw [Nat.add_assoc, ← hes]; exact hcells _ u hj
     ·cases hj
   ·intro hp; exact hp.elim
  ·rename_i ob hex
   rw [hex] at hx hnx
   split
   ·rename_i e' es l hob
    split
    ·rename_i hes
     intro hp
     obtain ⟨p1, p2⟩ := (show _ ∧ _ from hp)
     have hlt : n.toNat < l.length := by omega
     have hok := h.ok ob _ hob
     obtain ⟨us, hown, hre, _⟩ := hok
     unfold RV at hx
     rcases hown.2 with ⟨g1, g2⟩ | ⟨g, off, cap, cur, g1, _⟩
     ·omega
     ·refine out_val (run g off l.length cap (by rw [hx.1, g1]) p1 p2) (sr_same h ?_ ?_)
      ·unfold RV
       exact ⟨g, _, _, _, g1, by rw [hes, Nat.add_zero]⟩
      ·unfold NB at hnx ⊢; exact hnx
    ·intro hp; exact hp.elim
   ·rename_i e' es mask l g' hole hob
    split
    ·rename_i hes
     intro hp
     obtain ⟨p1, p2⟩ := (show _ ∧ _ from hp)
     have hlt : n.toNat < l.length := by omega
     have hok : TabOK F w e' es mask l (κ ob).v (κ g').r hole := h.ok ob _ hob
     obtain ⟨us, hown, _⟩ := hok.mem
     unfold RV at hx
     rcases hown.2 with ⟨g1, g2⟩ | ⟨g, off, cap, cur, g1, _⟩
     ·omega
     ·refine out_val (run g off l.length cap (by rw [hx.1, g1]) p1 p2) (sr_same h ?_ ?_)
      ·unfold RV
       exact ⟨g, _, _, _, g1, by rw [hes, Nat.add_zero]⟩
      ·unfold NB at hnx ⊢; exact hnx
    ·intro hp; exact hp.elim
   ·intro hp; exact hp.elim
  ·rename_i ob g k' j hex
   exact hrow el E k n ob g k' j hel hi hex
  ·rename_i ob g k' j es lo m hex
   rw [hex] at hx hnx
   split
   ·rename_i hes
    intro hp
    obtain ⟨p1, p2⟩ := (show _ ∧ _ from hp)
    unfold RV at hx
    obtain ⟨a, m', cap, q1, q2, q3, q4, q5⟩ := hx
    rcases q4 with q4 | ⟨b, f, rfl⟩
    ·omega
    ·rw [if_neg (by omega), Option.map_some, Addr.add_lit] at q5
     refine out_val (run b (f + lo * es) m (cap - lo) q5 p1 p2) (sr_same h ?_ ?_)
     ·unfold RV
      refine ⟨b, f, _, _, q1, ?_⟩
      rw [← hes, Nat.add_zero, Nat.add_mul, Nat.add_assoc]
     ·unfold NB at hnx ⊢; exact hnx
   ·intro hp; exact hp.elim
  ·intro hp; exact hp.elim
 ·rename_i k n hel hi
  unfold arrIndex
  split
  ·rename_i len el size bytes zero _ hts
   split
   ·rename_i E hE
    have hu := (hty _ _ hts).1
    have tok := hty _ _ hE
    have vi := rv_int hi (he i)
    have run : ∀ (b off : Nat), ρ x = .pointer (some ⟨b, off, none⟩) → 0 ≤ n → n < len → (execOp ρ o).run P w = .ok (.value (.pointer (some ⟨b, off + n.toNat * E.size, none⟩))) w := by
     intro b off hρ h0 h1
     unfold execOp
     simp only [ho]
     refine exec_v _ ?_
     have hc : 0 ≤ n ∧ n < (len : Int) := ⟨h0, h1⟩
     simp only [Instr.indexAt, Instr.sureAddr, hρ, vi, asIntOf, Sem.run_bind, Sem.run_pure, Result.andThen_ok, run_underlying hu, hc, and_self, if_true, run_sizeOf' tok, addr_add]
    have hx := he x
    have hnx := hn x
    split
    ·rename_i ob q hex
     rw [hex] at hx hnx; unfold RV at hx
     obtain ⟨b, hk, hρ⟩ := hx
     intro hp
     obtain ⟨p1, p2⟩ := (show _ ∧ _ from hp)
     refine out_val (run _ _ hρ p1 p2) (sr_same h ?_ ?_)
     ·unfold RV; exact ⟨b, hk, rfl⟩
     ·unfold NB at hnx ⊢; exact hnx
    ·rename_i ob es kk j hex
     rw [hex] at hx hnx; unfold RV at hx
     obtain ⟨b, f, n', cap, hk, hρ⟩ := hx
     split
     ·rename_i hq
      obtain ⟨rfl, rfl⟩ := hq
      intro hp
      obtain ⟨p1, p2⟩ := (show _ ∧ _ from hp)
      refine out_val (run _ _ hρ p1 p2) (sr_same h ?_ ?_)
      ·unfold RV; exact ⟨b, f, n', cap, hk, by rw [Nat.add_mul]; congr 3; omega⟩
      ·unfold NB at hnx ⊢; exact hnx
     ·intro hp
      obtain ⟨p1, p2⟩ := (show _ ∧ _ from hp)
      refine out_val (run _ _ hρ p1 p2) (sr_same h ?_ ?_)
      ·unfold RV; exact ⟨b, f, n', cap, hk, by simp only [Nat.add_assoc]⟩
      ·unfold NB at hnx ⊢; exact hnx
    ·rename_i ob g kk j es q c hex
     rw [hex] at hx hnx; unfold RV at hx
     obtain ⟨b, f, n', cap, hk, hρ⟩ := hx
     intro hp
     obtain ⟨p1, p2⟩ := (show _ ∧ _ from hp)
     refine out_val (run _ _ hρ p1 p2) (sr_same h ?_ ?_)
     ·unfold RV; exact ⟨b, f, n', cap, hk, by simp only [Nat.add_assoc]⟩
     ·unfold NB at hnx ⊢; exact hnx
    ·rename_i ds hex
     rw [hex] at hx; unfold RV at hx
     obtain ⟨b, q, us, hρ, hF, hcells, hrc⟩ := hx
     intro hp
     obtain ⟨p1, p2⟩ := (show _ ∧ _ from hp)
     refine out_val (run _ _ hρ p1 p2) (sr_same h ?_ (by unfold NB; trivial))
     unfold RV
     refine ⟨b, q + n.toNat * E.size, us.drop (n.toNat * E.size), rfl, hF, fun j u hj => ?_, hrc.drop _⟩
     rw [List.getElem?_drop] at hj
     rw [Nat.add_assoc]; exact hcells _ u hj
    ·intro hp; exact hp.elim
   ·intro hp; exact hp.elim
  ·intro hp; exact hp.elim
 ·intro hp; exact hp.elim

theorem sound_len (hty : ∀ t x, ty t = some x → TyOK P t x) (h : ORel cx κ F w U σ) {o : Oper} {ρ : Operand → Value} {e : Operand → AV} (he : ∀ x, RV κ F w (e x) (ρ x)) {x : Operand} {t : TypeId} (ho : o.op = .call { callee := .builtin .len, args := #[x], argTypes := #[t] })
  (hrow : ∀ ob g k j, (∃ el sz by' z q, ty t = some ⟨.slice el, sz, by', z, q⟩) → e x = .row ob g k j → Sound P cx κ F w U nm σ o ρ (rowLen σ ob g k j)) :
  Sound P cx κ F w U nm σ o ρ (lenSpec ty σ t (e x)) := by
 have run : ∀ v, (Builtin.len_ #[t] o.type #[ρ x]).run P w = .ok v w → (execOp ρ o).run P w = .ok (.value v) w := by
  intro v hv
  unfold execOp
  simp only [ho, resolve, invoke, builtin, Sem.run_bind, Sem.run_pure, Result.andThen_ok, List.map_toArray, List.map_cons, List.map_nil, hv]
 have hx := he x
 unfold lenSpec
 split
 ·rename_i sz by' z hts
  have hu := (hty _ _ hts).1
  split
  ·rename_i s hst
   refine sound_det h rfl fun _ => run _ ?_
   rw [rv_str hst hx]
   simp only [Builtin.len_, List.getElem?_toArray, List.getElem?_cons_zero, Sem.run_bind, run_underlying hu, Result.andThen_ok, goInt, Sem.run_pure]
  ·intro hp; exact hp.elim
 ·rename_i sz by' z el hts
  have hu := (hty _ _ hts).1
  have run2 : ∀ a n cap, ρ x = .slice a n cap → (execOp ρ o).run P w = .ok (.value (.int .i64 n)) w := fun a n cap hρ => run _ (by
   rw [hρ]
   simp only [Builtin.len_, List.getElem?_toArray, List.getElem?_cons_zero, Sem.run_bind, run_underlying hu, Result.andThen_ok, goInt, Sem.run_pure])
  split
  ·rename_i es l hex
   rw [hex] at hx; unfold RV RD at hx
   obtain ⟨a, cap, hρ, _⟩ := hx
   exact sound_det h rfl fun _ => run2 _ _ _ hρ
  ·rename_i hex
   rw [hex] at hx; unfold RV RD at hx
   exact sound_det h rfl fun _ => by simpa using run2 _ _ _ hx.1
  ·rename_i ob hex
   rw [hex] at hx; unfold RV at hx
   split
   ·rename_i e' es l hob
    obtain ⟨us, hown, hre, _⟩ := h.ok ob _ hob
    refine sound_det h rfl fun _ => ?_
    rcases hown.2 with ⟨g1, g2⟩ | ⟨g, off, cap, cur, g1, _⟩
    ·rw [g2]; exact run2 _ _ _ (by rw [hx.1, g1])
    ·exact run2 _ _ _ (by rw [hx.1, g1])
   ·rename_i e' es mask l g' hole hob
    have hok : TabOK F w e' es mask l (κ ob).v (κ g').r hole := h.ok ob _ hob
    obtain ⟨us, hown, _⟩ := hok.mem
    refine sound_det h rfl fun _ => ?_
    rcases hown.2 with ⟨g1, g2⟩ | ⟨g, off, cap, cur, g1, _⟩
    ·rw [g2]; exact run2 _ _ _ (by rw [hx.1, g1])
    ·exact run2 _ _ _ (by rw [hx.1, g1])
   ·intro hp; exact hp.elim
  ·rename_i ob g k j hex
   exact hrow ob g k j ⟨_, _, _, _, _, hts⟩ hex
  ·rename_i ob g k j es lo m hex
   rw [hex] at hx; unfold RV at hx
   obtain ⟨a, m', cap, _, _, _, _, q5⟩ := hx
   exact sound_det h rfl fun _ => run2 _ _ _ q5
  ·intro hp; exact hp.elim
 ·intro hp; exact hp.elim

end
end Go.Ab
