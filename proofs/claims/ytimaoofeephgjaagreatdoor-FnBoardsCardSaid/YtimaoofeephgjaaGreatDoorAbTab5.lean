/- My own layer: tables: what their operations leave (5): stores into a table. -/
import Derived.Test.YtimaoofeephgjaaGreatDoorAbTab4
namespace Go.Ab
set_option linter.unusedVariables false
set_option linter.unusedSimpArgs false
section
variable {P : Program} {cx : Cx} {κ : Kap} {F : Nat → Prop} {w : World} {U : Nat → Prop} {nm : Nat} {σ : Objs} {ty : TypeId → Option TyE} {Γ : Nat → Option FnSpec}

theorem pos_ne {k k1 j1 es : Nat} (hj : j1 < es) (hne : k1 ≠ k) {p : Nat} (h1 : k * es ≤ p) (h2 : p < k * es + es) : k1 * es + j1 ≠ p := by
 intro e
 rcases Nat.lt_or_gt_of_ne hne with hlt | hlt
 ·have := Nat.mul_le_mul_right es hlt
  rw [Nat.succ_mul] at this
  omega
 ·have := Nat.mul_le_mul_right es hlt
  rw [Nat.succ_mul] at this
  omega

theorem holeUp_ne {hole : Option (Nat × Nat)} {j n k k1 j1 : Nat} (hk : ∀ k0 j0, hole = some (k0, j0) → holeOff hole j n = false → k0 = k) (hr : holeUp hole j n ≠ some (k1, j1)) (ho : ¬ (k1 = k ∧ j ≤ j1 ∧ j1 < j + n)) : hole ≠ some (k1, j1) := by
 intro e
 unfold holeUp at hr
 cases hb : holeOff hole j n with
 | true => rw [hb] at hr; exact hr e
 | false =>
  have := hk k1 j1 e hb
  rw [e] at hb
  simp only [holeOff, Bool.or_eq_false_iff] at hb
  refine ho ⟨this, ?_, ?_⟩
  ·have h1 := hb.1
   apply Classical.byContradiction
   intro hn
   rw [show Nat.blt j1 j = true from by simpa [Nat.blt_eq] using Nat.lt_of_not_le hn] at h1
   cases h1
  ·have h2 := hb.2
   apply Classical.byContradiction
   intro hn
   rw [show Nat.ble (j + n) j1 = true from by simpa using Nat.le_of_not_lt hn] at h2
   cases h2

theorem sound_tabStore (hty : ∀ t x, ty t = some x → TyOK P t x) (h : ORel cx κ F w U σ) (hf : ¬ U nm) {o : Oper} {ρ : Operand → Value} {e : Operand → AV} (he : ∀ x, RV κ F w (e x) (ρ x)) (hn : ∀ x, NB U (e x)) {t : TypeId} {a x : Operand} (ho : o.op = .store t a x)
  {T : TyE} {cs : List AV} {ob es k j : Nat} (hT : ty t = some T) (hcs : (e x).cells = some cs) (hlen : cs.length = T.size) (hea : e a = .eref ob es k j) : Sound P cx κ F w U nm σ o ρ (tabStore ty σ nm ob es k j cs) := by
 have tok := hty t T hT
 obtain ⟨hc, hcn⟩ := cells_of hcs (he x) (hn x)
 have hsz : (ρ x).cells.size = cs.length := by rw [← Array.length_toList]; exact hc.length
 have hvl : (ρ x).cells.toList.length = cs.length := by rw [Array.length_toList]; exact hsz
 have ha := he a
 rw [hea] at ha; unfold RV at ha
 obtain ⟨b, f, n, cap, hk, hρ⟩ := ha
 unfold tabStore
 split
 ·rename_i e' es' mask l g hole hob
  have ht : TabOK F w e' es' mask l (κ ob).v (κ g).r hole := h.ok ob _ hob
  have hU := h.nb ob _ hob
  split
  ·rename_i E ds ns ks hE hput
   obtain ⟨q1, q2, q3⟩ := tabPut_some hput
   split
   ·rename_i hc1
    obtain ⟨rfl, hEs⟩ := hc1
    have key : ∀ (d : D), k < l.length → j + ds.length ≤ es → (∀ k' ∈ ks, k' = k) → (∀ k0 j0, hole = some (k0, j0) → holeOff hole j ds.length = false → k0 = k) → ns.Nodup →
      d.cells = spl (l.getD k (.sc undef)).cells j ds → ∀ {p : Prop} {rd : List Nat}, Out P o ρ w (SR cx κ F w U nm σ (.det p rd .und (goneD ns ++ [(ob, some (.tab e' es mask (l.set k d) nm (holeUp hole j ds.length)))]))) := by
     intro d p1 p2 p3 p4 p5 hd p rd
     obtain ⟨us, hown, hul, hcell⟩ := ht.mem
     have hkd := getD_of_lt (d := D.sc undef) p1
     have hdl := ht.cells k _ hkd
     have hm1 : (k + 1) * es ≤ l.length * es := Nat.mul_le_mul_right _ p1
     have hm2 : (k + 1) * es = k * es + es := by rw [Nat.add_mul, Nat.one_mul]
     obtain ⟨cur, _, fz, c1, cz, c2, c3⟩ := own_set hown hk (p := k * es + j) (vs := (ρ x).cells.toList) (by omega)
     have hW : ∀ b', b' ≠ b → (w.setRow b (spl cur.toList (f + (k * es + j)) (ρ x).cells.toList).toArray).heap[b']? = w.heap[b']? := fun b' hb' => setRow_other w b b' _ hb'
     generalize hw' : w.setRow b (spl cur.toList (f + (k * es + j)) (ρ x).cells.toList).toArray = w' at *
     have hbk : blk (κ ob).v = some b := by rw [hk]; rfl
     have hScb : ScBlk κ σ (.obj ob) b := ⟨_, hob, hbk⟩
     let src : Nat → Nat → Option Sc := fun k1 j1 => if k1 = k ∧ j ≤ j1 ∧ j1 < j + ds.length then some (match ownN (cs.getD (j1 - j) .und) with | some n => .obj n | none => .row ob k j1) else some (.row ob k1 j1)
     have hsrc_in : ∀ i x, cs[i]? = some x → i < ds.length → src k (j + i) = some (match ownN x with | some n => .obj n | none => .row ob k (j + i)) := fun i x hi hil => by
      show (if k = k ∧ j ≤ j + i ∧ j + i < j + ds.length then some (match ownN (cs.getD (j + i - j) .und) with | some n => Sc.obj n | none => .row ob k (j + i)) else some (.row ob k (j + i))) = _
      rw [if_pos ⟨rfl, by omega, by omega⟩, show j + i - j = i from by omega, List.getD_eq_getElem?_getD, hi]; rfl
     have hsrc_out : ∀ k1 j1, ¬ (k1 = k ∧ j ≤ j1 ∧ j1 < j + ds.length) → src k1 j1 = some (.row ob k1 j1) := fun k1 j1 hno => by
      show (if k1 = k ∧ j ≤ j1 ∧ j1 < j + ds.length then _ else some (Sc.row ob k1 j1)) = _
      rw [if_neg hno]
     -- the written cells
     have hspl : ∀ q, (spl us (k * es + j) (ρ x).cells.toList)[q]? = if q < k * es + j then us[q]? else if q < k * es + j + ds.length then (ρ x).cells.toList[q - (k * es + j)]? else us[q]? := fun q => by
      rw [spl_get (by omega), hvl, q1]
     have hcell2 : TabC κ σ F w mask es (l.set k d) (spl us (k * es + j) (ρ x).cells.toList) (holeUp hole j ds.length) src := by
      refine ⟨?_, fun k1 d1 hk1 => ?_, fun k1 d1 j1 c1 hk1 hj1 => ?_⟩
      ·rw [spl_length (by omega), List.length_set]; exact hul
      ·by_cases hkk : k1 = k
       ·subst hkk
        rw [List.getElem?_set_self p1] at hk1
        cases hk1
        rw [hd, spl_length (by omega)]; exact hdl
       ·rw [List.getElem?_set_ne (Ne.symm hkk)] at hk1
        exact ht.cells _ _ hk1
      · -- an old cell
       have old : ∀ d0, l[k1]? = some d0 → d0.cells[j1]? = some c1 → ¬ (k1 = k ∧ j ≤ j1 ∧ j1 < j + ds.length) → j1 < es → ∃ x_1, (spl us (k * es + j) (ρ x).cells.toList)[k1 * es + j1]? = some x_1 ∧ one x_1 = true ∧ match maskAt mask j1 with
         | none => RD F w c1 x_1
         | some e' => holeUp hole j ds.length = some (k1, j1) ∨ ((∃ es' rows, c1 = .sl es' rows ∧ ArrOK F w e' es' x_1 rows) ∧ ∀ b, blk x_1 = some b → ∃ s, src k1 j1 = some s ∧ ScBlk κ σ s b) := by
        intro d0 hk0 hj0 hno hje
        obtain ⟨u, u1, u2, u3⟩ := hcell k1 d0 j1 c1 hk0 hj0
        refine ⟨u, ?_, u2, ?_⟩
        ·rw [hspl]
         by_cases hkk : k1 = k
         ·subst hkk
          by_cases hjj : j1 < j
          ·rw [if_pos (by omega)]; exact u1
          ·rw [if_neg (by omega), if_neg (by omega)]; exact u1
         ·by_cases hq : k1 * es + j1 < k * es + j
          ·rw [if_pos hq]; exact u1
          ·rw [if_neg hq, if_neg ?_]
           ·exact u1
           ·intro hq2
            exact pos_ne hje hkk (p := k1 * es + j1) (by omega) (by omega) rfl
        ·cases hm : maskAt mask j1 with
         | none => rw [hm] at u3; exact u3
         | some e2 =>
          rw [hm] at u3
          simp only [] at u3 ⊢
          by_cases hh : holeUp hole j ds.length = some (k1, j1)
          ·exact .inl hh
          ·have hh' := holeUp_ne (fun k0 j0 => p4 k0 j0) hh hno
           rcases u3 with u3 | ⟨u3, es2, rows2, u4, u5⟩
           ·exact absurd u3 hh'
           ·refine .inr ⟨⟨es2, rows2, u4, u5⟩, fun b' hb' => ⟨_, hsrc_out k1 j1 hno, e', es, mask, l, g, hole, hob, ⟨(List.getElem?_eq_some_iff.1 hk0).1, by rw [hm]; rfl, hh'⟩, by rw [← u3]; exact hb'⟩⟩
       by_cases hkk : k1 = k
       ·subst hkk
        rw [List.getElem?_set_self p1] at hk1
        cases hk1
        have hj1e : j1 < es := by
         have := (List.getElem?_eq_some_iff.1 hj1).1
         rw [hd, spl_length (by omega), hdl] at this
         exact this
        rw [hd, spl_get (by omega)] at hj1
        by_cases h1 : j1 < j
        ·rw [if_pos h1] at hj1
         exact old _ hkd hj1 (by omega) hj1e
        ·rw [if_neg h1] at hj1
         by_cases h2 : j1 < j + ds.length
         ·rw [if_pos h2] at hj1
          have hil : j1 - j < cs.length := by omega
          obtain ⟨u, u1, u2, u3⟩ := RVc.at (j1 - j) _ hc (List.getElem?_eq_getElem hil)
          obtain ⟨cc, v1, v2⟩ := q3 (j1 - j) _ (List.getElem?_eq_getElem hil)
          rw [hj1] at v1; cases v1
          rw [show j + (j1 - j) = j1 from by omega] at v2
          refine ⟨u, ?_, u2, ?_⟩
          ·rw [hspl, if_neg (by omega), if_pos (by omega), show k1 * es + j1 - (k1 * es + j) = j1 - j from by omega]; exact u1
          ·have hpc := put_cell h v2 (.inr ⟨e', es, l, hob, rfl, p1, p3⟩) u3
           have hsi := hsrc_in (j1 - j) _ (List.getElem?_eq_getElem hil) (by omega)
           rw [show j + (j1 - j) = j1 from by omega] at hsi
           cases hm : maskAt mask j1 with
           | none => rw [hm] at hpc; exact hpc
           | some e2 =>
            rw [hm] at hpc
            simp only [] at hpc ⊢
            exact .inr ⟨hpc.1, fun b' hb' => ⟨_, hsi, hpc.2 b' hb'⟩⟩
         ·rw [if_neg h2] at hj1
          exact old _ hkd hj1 (by omega) hj1e
       ·rw [List.getElem?_set_ne (Ne.symm hkk)] at hk1
        have hj1e : j1 < es := by
         have := (List.getElem?_eq_some_iff.1 hj1).1
         rw [ht.cells _ _ hk1] at this
         exact this
        exact old _ hk1 hj1 (by simp [hkk]) hj1e
     -- sources
     have hsrc_cases : ∀ k1 j1 s, isRow mask (l.set k d).length (holeUp hole j ds.length) k1 j1 → src k1 j1 = some s → s = .row ob k1 j1 ∨ ∃ i n, k1 = k ∧ j1 = j + i ∧ i < ds.length ∧ cs[i]? = some (.own n) ∧ s = .obj n := by
      intro k1 j1 s _ hs
      by_cases hin : k1 = k ∧ j ≤ j1 ∧ j1 < j + ds.length
      ·obtain ⟨rfl, h2, h3⟩ := hin
       have hil : j1 - j < cs.length := by omega
       have hsi := hsrc_in (j1 - j) _ (List.getElem?_eq_getElem hil) (by omega)
       rw [show j + (j1 - j) = j1 from by omega, hs] at hsi
       simp only [Option.some.injEq] at hsi
       cases hx : ownN (cs[j1 - j]) with
       | none => rw [hx] at hsi; exact .inl hsi
       | some n =>
        rw [hx] at hsi
        exact .inr ⟨j1 - j, n, rfl, by omega, by omega, by rw [List.getElem?_eq_getElem hil, ownN_some hx], hsi⟩
      ·rw [hsrc_out k1 j1 hin] at hs
       exact .inl (Option.some.inj hs).symm
     have hmemns : ∀ (i n : Nat), cs[i]? = some (AV.own n) → n ∈ ns := fun i n hi => by rw [q2]; exact List.mem_filterMap.2 ⟨_, List.mem_of_getElem? hi, rfl⟩
     have hns : ∀ n ∈ ns, ∃ e es rows, σ n = some (.arr e es rows) := fun n hn => by
      rw [q2] at hn
      obtain ⟨y, hy, hyn⟩ := List.mem_filterMap.1 hn
      have := ownN_some hyn
      subst this
      obtain ⟨i, hi⟩ := List.getElem?_of_mem hy
      obtain ⟨c, v1, v2⟩ := q3 i _ hi
      unfold PutAt at v2
      split at v2
      ·cases v2
      ·rcases v2 with ⟨m, es', rows, hm, hσ, _⟩ | ⟨_, hm, _⟩ | ⟨hm, _⟩
       ·cases hm; exact ⟨_, _, _, hσ⟩
       ·cases hm
       ·cases hm
     have hnob : ob ∉ ns := fun hm => by
      obtain ⟨_, _, _, h1⟩ := hns ob hm
      rw [hob] at h1; cases h1
     have hSb : ∀ k1 j1 s b', isRow mask (l.set k d).length (holeUp hole j ds.length) k1 j1 → src k1 j1 = some s → ScBlk κ σ s b' → b' ≠ b := by
      intro k1 j1 s b' hr hs hb' e2
      subst e2
      have := sc_apart h hb' hScb
      rcases hsrc_cases k1 j1 s hr hs with rfl | ⟨i, n, _, _, _, hi, rfl⟩
      ·cases this
      ·cases this
       exact hnob (hmemns i ob hi)
     have hFb : ∀ b', F b' → b' ≠ b := fun b' hb' e2 => (h.free ob _ hob b (.inl hbk)).1 (e2 ▸ hb')
     have hne : ob ≠ nm := fun e2 => hf (e2 ▸ hU.1)
     refine out_skip (w' := w') (by rw [← hw']; exact exec_store tok ho hρ c1 (fun _ hj => cz.not hj) (by rw [hsz, hlen]) (by rw [Array.length_toList] at c2; exact c2) hc.ones) ?_
     refine ⟨.und, _, kapN κ nm ⟨undef, fun k1 j1 => (spl us (k * es + j) (ρ x).cells.toList).getD (k1 * es + j1) undef⟩, F, ⟨rfl, rfl⟩, ?_, by unfold RV; rfl, by unfold NB; trivial⟩
     refine aft_gen h hf (ob :: ns) ob (.inr hU.1) (by rw [← hw']; rfl) (by rw [← hw']; rfl) (by rw [← hw']; rfl) (by rw [← hw']; simp) (fun b' _ hb' => hW b' fun e2 => hb' ob (List.mem_cons_self ..) _ hob (.inl (by rw [e2]; exact hbk))) (x := .tab e' es mask (l.set k d) nm (holeUp hole j ds.length)) (fun b' hb' => ?_) ?_ nm_un ?_
     ·left
      rcases hb' with hb' | ⟨k1, j1, hr, hb'⟩
      ·simp only [kapN, if_neg hne] at hb'
       exact ⟨ob, List.mem_cons_self .., _, hob, .inl hb'⟩
      ·simp only [kapN, if_true] at hb'
       obtain ⟨s, g1, g2⟩ := hcell2.src_blk ht.mlen hr hb'
       obtain ⟨y, hy, hby⟩ := g2.blk
       refine ⟨s.o, ?_, y, hy, hby⟩
       rcases hsrc_cases k1 j1 s hr g1 with rfl | ⟨i, n, _, _, _, hi, rfl⟩
       ·exact List.mem_cons_self ..
       ·exact List.mem_cons_of_mem _ (hmemns i n hi)
     ·show TabOK F w' e' es mask (l.set k d) (kapN κ nm _ ob).v (kapN κ nm _ nm).r (holeUp hole j ds.length)
      simp only [kapN, if_neg hne, if_true]
      refine hcell2.tab h ht.pos ht.mlen (fun b' hb' => hW b' (hFb b' hb')) (fun k1 j1 s b' hr hs hb' => hW b' (hSb k1 j1 s b' hr hs hb')) (by rw [List.length_set]; exact c3) ?_ (fun b' hb' => .inr ⟨ob, ?_, fun k1 j1 hr hs => ?_⟩)
      ·intro k1 j1 k2 j2 s hr hr' hs hs'
       rcases hsrc_cases k1 j1 s hr hs with rfl | ⟨i, n, rfl, rfl, hi1, hi, rfl⟩
       ·rcases hsrc_cases k2 j2 _ hr' hs' with he2 | ⟨i', n', _, _, _, _, he2⟩
        ·cases he2; rfl
        ·cases he2
       ·rcases hsrc_cases k2 j2 _ hr' hs' with he2 | ⟨i', n', rfl, rfl, _, hi', he2⟩
        ·cases he2
        ·cases he2
         rw [ownN_inj (by rw [← q2]; exact p5) hi hi']
      ·rw [hbk] at hb'; cases hb'; exact hScb
      ·rcases hsrc_cases k1 j1 _ hr hs with he2 | ⟨i, n, _, _, _, hi, he2⟩
       ·cases he2
       ·cases he2
        exact hnob (hmemns i ob hi)
     ·intro o' y hy
      rw [app_gone] at hy
      have hy' : upd (rmvs σ ns) ob (some (.tab e' es mask (l.set k d) nm (holeUp hole j ds.length))) o' = some y := hy
      by_cases ho' : o' = ob
      ·subst ho'
       rw [upd_same] at hy'
       exact .inl ⟨rfl, (Option.some.inj hy').symm⟩
      ·rw [upd_ne ho'] at hy'
       obtain ⟨g1, g2⟩ := rmvs_some hy'
       exact .inr ⟨ho', by simp [ho', g2], g1⟩
    split
    ·rename_i hg
     intro hp
     obtain ⟨p1, p2, p3, p4, p5⟩ := (show _ ∧ _ ∧ _ ∧ _ ∧ _ from hp)
     exact key (.agg _) p1 p2 p3 p4 p5 rfl
    ·rename_i hg
     split
     ·rename_i d
      split
      ·rename_i h1
       subst h1
       intro hp
       obtain ⟨p1, rfl, p3, p4, p5⟩ := (show _ ∧ _ ∧ _ ∧ _ ∧ _ from hp)
       refine key d p1 (by simp) p3 p4 p5 ?_
       have hcl := ht.cells k _ (getD_of_lt (d := D.sc undef) p1)
       -- one cell
       have hd1 : d.cells = [d] := by
        have hil : 0 < cs.length := by rw [← q1]; simp
        obtain ⟨c, v1, v2⟩ := q3 0 _ (List.getElem?_eq_getElem hil)
        simp only [List.getElem?_cons_zero, Option.some.injEq] at v1
        subst v1
        obtain ⟨u, u1, u2, u3⟩ := RVc.at 0 _ hc (List.getElem?_eq_getElem hil)
        have hpc := put_cell h v2 (.inr ⟨_, _, l, hob, rfl, p1, p3⟩) u3
        cases hm : maskAt mask (0 + 0) with
        | none =>
         rw [hm] at hpc
         have hpc' : RD F w d u := hpc
         have h3 := (rc_one u2 hpc').length
         cases d with
         | agg cs' =>
          unfold RD at hpc'
          obtain ⟨vs', rfl, _⟩ := hpc'
          cases u2
         | _ => rfl
        | some e2 =>
         rw [hm] at hpc
         obtain ⟨es2, rows2, rfl, _⟩ := hpc.1
         rfl
       rw [hd1]
       unfold spl
       rw [List.take_zero, List.nil_append]
       simp only [List.length_cons, List.length_nil, Nat.zero_add]
       rw [List.drop_eq_nil_of_le (by omega), List.append_nil]
      ·intro hp; exact hp.elim
     ·intro hp; exact hp.elim
   ·intro hp; exact hp.elim
  ·intro hp; exact hp.elim
 ·intro hp; exact hp.elim

end
end Go.Ab
