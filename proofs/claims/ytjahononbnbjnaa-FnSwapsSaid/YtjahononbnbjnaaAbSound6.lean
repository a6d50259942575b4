/- My own layer, ninth part: slice literals, make, cuts, small ones. -/
import Derived.Test.YtjahononbnbjnaaAbSound5
import Derived.Laws.BytesString
import Derived.Laws.IdiomStrings
namespace Go.Ab
set_option linter.unusedVariables false
set_option linter.unusedSimpArgs false
section
variable {P : Program} {cx : Cx} {κ : Kap} {F : Nat → Prop} {w : World} {U : Nat → Prop} {nm : Nat} {σ : Objs} {ty : TypeId → Option TyE} {Γ : Nat → Option FnSpec}

theorem rc_mkD {agg : Bool} {ds : List D} {d : D} (h : mkD agg ds = some d) {us : List Value} (hr : RC F w ds us) : RC F w d.cells us := by
 unfold mkD at h
 split at h
 ·simp only [Option.some.injEq] at h; subst h; exact hr
 ·split at h
  ·simp only [Option.some.injEq] at h; subst h
   unfold RC at hr
   obtain ⟨u, us', rfl, h1, h2, h3⟩ := hr
   unfold RC at h3; subst h3
   exact rc_one h1 h2
  ·cases h

theorem sound_elems {agg : Bool} {es : Nat} {ρ : Operand → Value} {e : Operand → AV} (he : ∀ x, RV κ F w (e x) (ρ x)) (hn : ∀ x, NB U (e x)) :
  ∀ (parts : List (Nat × Operand)) (k : Nat) (ds : List D) (c : Array Value), elemsOf agg es k (parts.map fun p => (p.1, e p.2)) = some ds → c.size = (k + parts.length) * es →
   ∃ c' us, Instr.fill (fun i => some (i * es, es)) c (parts.map fun p => (p.1, ρ p.2)) = some c' ∧ c'.toList = c.toList.take (k * es) ++ us ∧ RE F w es ds us
 | [], k, ds, c, h, hc => by
  simp only [List.map_nil, elemsOf, Option.some.injEq] at h
  subst h
  refine ⟨c, [], rfl, ?_, by unfold RE; rfl⟩
  rw [List.append_nil, List.take_of_length_le (by simp at hc ⊢; omega)]
 | (i, x) :: rest, k, ds, c, h, hc => by
  simp only [List.map_cons, elemsOf] at h
  split at h
  ·rename_i hik
   subst hik
   split at h
   ·rename_i cs hcs
    split at h
    ·rename_i hlen
     split at h
     ·rename_i ds0 hds0
      split at h
      ·rename_i d r hd hr
       simp only [Option.some.injEq] at h
       subst h
       obtain ⟨h1, h2⟩ := cells_of hcs (he x) (hn x)
       rw [toDs_some hds0] at h1 hlen
       rw [List.length_map] at hlen
       have h3 := RC_of_RVc h1
       have hsz : (ρ x).cells.size = es := by rw [← Array.length_toList, h3.length]; exact hlen
       simp only [List.length_cons] at hc
       have e1 : (i + (rest.length + 1)) * es = i * es + es + rest.length * es := by rw [Nat.add_mul, Nat.add_mul, Nat.one_mul]; omega
       have e2 : (i + 1 + rest.length) * es = i * es + es + rest.length * es := by rw [Nat.add_mul, Nat.add_mul, Nat.one_mul]
       have hfit : i * es + (ρ x).cells.size ≤ c.size := by omega
       obtain ⟨c', us, g1, g2, g3⟩ := sound_elems he hn rest (i + 1) r (spl c.toList (i * es) (ρ x).cells.toList).toArray hr (by
        simp only [List.size_toArray]
        rw [spl_length (by simpa using hfit), Array.length_toList]; omega)
       refine ⟨c', (ρ x).cells.toList ++ us, ?_, ?_, RE.mk (by simpa using hsz) (rc_mkD hd h3) g3⟩
       ·simp only [List.map_cons, Instr.fill]
        rw [if_neg (by simp only [Bool.or_eq_true, decide_eq_true_eq, ne_eq]; omega), foldl_spl _ _ _ hfit]
        exact g1
       ·rw [g2, ← List.append_assoc]
        congr 1
        have e3 : (i + 1) * es = i * es + es := by rw [Nat.add_mul, Nat.one_mul]
        unfold spl
        have : (c.toList.take (i * es) ++ (ρ x).cells.toList).length = (i + 1) * es := by
         rw [List.length_append, List.length_take, Array.length_toList, Array.length_toList]; omega
        rw [← this, List.take_left]
      ·cases h
     ·cases h
    ·cases h
   ·cases h
  ·cases h

theorem sound_buildSlice (hty : ∀ t x, ty t = some x → TyOK P t x) (h : ORel cx κ F w U σ) (hf : ¬ U nm) {o : Oper} {ρ : Operand → Value} {e : Operand → AV} (he : ∀ x, RV κ F w (e x) (ρ x)) (hn : ∀ x, NB U (e x)) {t : TypeId} {len : Nat} {parts : Array (Nat × Operand)} (ho : o.op = .buildSlice t len parts)
  (htab : ∀ el E ds ns, elemOf ty t = some (el, E) → parts.toList.length = len → len * E.size ≤ 16777216 → 0 < E.size → E.zero.cells.size = E.size →
   elemsTab ty σ nm (maskOf σ (headCells (parts.toList.map fun p => (p.1, e p.2)))) E.isAgg E.size 0 (parts.toList.map fun p => (p.1, e p.2)) = some (ds, ns) →
   Sound P cx κ F w U nm σ o ρ (.det ns.Nodup ns (.own nm) (goneD ns ++ [(nm, some (.tab el E.size (maskOf σ (headCells (parts.toList.map fun p => (p.1, e p.2)))) ds nm none))]))) :
  Sound P cx κ F w U nm σ o ρ (spec ty Γ σ e nm o) := by
 have hs : spec ty Γ σ e nm o = buildSliceSpec ty σ nm t len (parts.toList.map fun p => (p.1, e p.2)) := by unfold spec; simp only [ho]
 rw [hs]
 unfold buildSliceSpec
 split
 ·rename_i el E hel
  obtain ⟨hu, tok⟩ := elemOf_some hty hel
  split
  ·rename_i hc
   obtain ⟨hlen, hle, hpos, hzs⟩ := hc
   split
   ·rename_i ds hds
    intro _
    rw [List.length_map] at hlen
    have hdl : ∀ (l : List (Nat × AV)) (k : Nat) (ds : List D), elemsOf E.isAgg E.size k l = some ds → ds.length = l.length := by
     intro l
     induction l with
     | nil => intro k ds hx; simp [elemsOf] at hx; subst hx; rfl
     | cons p l ih =>
      intro k ds hx
      obtain ⟨i, x⟩ := p
      unfold elemsOf at hx
      split at hx <;> try cases hx
      split at hx <;> try cases hx
      split at hx <;> try cases hx
      split at hx <;> try cases hx
      split at hx <;> try cases hx
      rename_i hr
      simp [ih _ _ hr]
    have hdlen := hdl _ _ _ hds
    rw [List.length_map] at hdlen
    obtain ⟨c', us, g1, g2, g3⟩ := sound_elems (F := F) (w := w) he hn parts.toList 0 ds ((Array.range (len * E.size)).map (fun i => (if len * E.size = 0 then #[] else E.zero.cells)[i % (if len * E.size = 0 then #[] else E.zero.cells).size]!)) hds (by simp [← hlen])
    simp only [Nat.zero_mul, List.take_zero, List.nil_append] at g2
    have hv : (parts.map fun (i, x) => (i, ρ x)).toList = parts.toList.map fun p => (p.1, ρ p.2) := by simp
    refine out_val (v := .slice (some ⟨w.heap.size, 0, none⟩) ds.length ds.length) (w' := w.alloc (.cells c' el)) ?_ (new_arr h hf (by rw [g2]; exact g3) hpos (by
     unfold maxLen
     have : ds.length * 1 ≤ ds.length * E.size := Nat.mul_le_mul_left _ hpos
     have e1 : ds.length = len := by rw [hdlen]; exact hlen
     rw [e1] at this; omega))
    unfold execOp
    simp only [ho]
    refine exec_v _ ?_
    have hle' : ¬ (len * E.size > 2 ^ 24) := by omega
    simp only [Instr.buildSlice, Sem.run_bind, run_underlying hu, Result.andThen_ok, run_sizeOf' tok, hle', if_false, hv]
    have e1 : ds.length = len := by rw [hdlen]; exact hlen
    by_cases h0 : len * E.size = 0
    ·simp only [h0, if_true] at g1
     simp only [h0, if_true, Sem.run_bind, Sem.run_pure, Result.andThen_ok, g1, run_newRow', e1]
    ·simp only [h0, if_false] at g1
     simp only [h0, if_false, Sem.run_bind, run_zero' tok, Sem.run_pure, Result.andThen_ok, g1, run_newRow', e1]
   ·split
    ·split
     ·rename_i ds ns hds
      exact htab el E ds ns hel (by rw [← hlen, List.length_map]) hle hpos hzs hds
     ·intro hp; exact hp.elim
    ·intro hp; exact hp.elim
  ·intro hp; exact hp.elim
 ·intro hp; exact hp.elim

theorem made_succ (z : Array Value) (n : Nat) : (madeCells z ((n + 1) * z.size)).toList = z.toList ++ (madeCells z (n * z.size)).toList := by
 unfold madeCells
 simp only [Array.toList_map, Array.toList_range]
 rw [show (n + 1) * z.size = z.size + n * z.size from by rw [Nat.add_mul, Nat.one_mul, Nat.add_comm], List.range_add, List.map_append, List.map_map]
 congr 1
 ·apply List.ext_getElem
  ·simp
  ·intro i h1 h2
   simp only [List.length_map, List.length_range] at h1
   simp [Nat.mod_eq_of_lt h1, h1]
 ·apply List.map_congr_left
  intro i _
  simp [Nat.add_mod_left]

theorem RE_replicate {z : Array Value} {d : D} (h : RC F w d.cells z.toList) : ∀ n, RE F w z.size (List.replicate n d) (madeCells z (n * z.size)).toList
 | 0 => by simp only [List.replicate_zero, Nat.zero_mul]; unfold RE; simp [madeCells]
 | n + 1 => by
  rw [made_succ, List.replicate_succ]
  exact RE.mk (by simp) h (RE_replicate h n)

theorem sound_make (hty : ∀ t x, ty t = some x → TyOK P t x) (h : ORel cx κ F w U σ) (hf : ¬ U nm) {o : Oper} {ρ : Operand → Value} {e : Operand → AV} (he : ∀ x, RV κ F w (e x) (ρ x)) {t : TypeId} {l c : Operand} (ho : o.op = .makeSlice t l c)
  (htab : ∀ (el : TypeId) (E : TyE) (k k' : IntKind) (n m : Int) (d : D), elemOf ty t = some (el, E) → isInt (e l) = some (k, n) → isInt (e c) = some (k', m) → 0 < E.size → E.zero.cells.size = E.size → E.zero.cells.toList.all one = true →
   mkD E.isAgg (nzC (shp ty 6 el) (E.zero.cells.toList.map .sc)) = some d →
   Sound P cx κ F w U nm σ o ρ (.det (0 ≤ n ∧ n = m ∧ n ≤ 140737488355328 ∧ n * E.bytes ≤ 140737488355328) [] (.own nm) [(nm, some (.tab el E.size (mtMask (shT ty 6 el) E.zero.cells.toList d.cells) (List.replicate n.toNat d) nm none))])) :
  Sound P cx κ F w U nm σ o ρ (spec ty Γ σ e nm o) := by
 have hs : spec ty Γ σ e nm o = makeSpec ty nm t (e l) (e c) := by unfold spec; simp only [ho]
 rw [hs]
 unfold makeSpec
 split
 ·rename_i el E k n k' m hel hl hc
  obtain ⟨hu, tok⟩ := elemOf_some hty hel
  have vl := rv_int hl (he l)
  have vc := rv_int hc (he c)
  split
  ·rename_i hcond
   obtain ⟨hpos, hzs, hone⟩ := hcond
   split
   ·rename_i d hd
    split
    case h_2 => exact htab el E k k' n m d hel hl hc hpos hzs hone hd
    intro hp
    obtain ⟨p1, p2, p3, p4⟩ := (show _ ∧ _ ∧ _ ∧ _ from hp)
    subst p2
    obtain ⟨_, i, i1, i2, i3, i4, _⟩ := tok
    have hr := run_make (P := P) w t el i E.zero hu i1 i4 k k' n n p1 (Int.le_refl _) (by rw [i3, Int.mul_comm]; omega) (by omega)
    have hre := RE_replicate (F := F) (w := w) (z := E.zero.cells) (d := d) (rc_mkD hd (RC.nz _ _ _ (RC_scs hone))) n.toNat
    rw [hzs] at hre
    have hlen : (List.replicate n.toNat d).length = n.toNat := List.length_replicate
    have := new_arr (cx := cx) (κ := κ) (σ := σ) (nm := nm) (e := el) (eb := el) h hf hre hpos (by rw [hlen]; unfold maxLen; omega) (p := (0 ≤ n ∧ n = n ∧ n ≤ 140737488355328 ∧ n * E.bytes ≤ 140737488355328)) (rd := [])
    rw [hlen] at this
    refine out_val ?_ this
    unfold execOp
    simp only [ho]
    refine exec_v _ ?_
    rw [vl, vc, hr, i2]
   ·intro hp; exact hp.elim
  ·intro hp; exact hp.elim
 ·intro hp; exact hp.elim

theorem run_bounds (isS : Bool) (len cap : Nat) {low high : Option Value} {l h : Int} (hl : (low = none ∧ l = 0) ∨ ∃ k, low = some (.int k l)) (hh : (high = none ∧ h = len) ∨ ∃ k, high = some (.int k h) ∧ h ≤ cap)
  (h0 : 0 ≤ l) (h1 : l ≤ h) : (Instr.sliceBounds isS len cap low high none).run P w = .ok (l.toNat, h.toNat, cap) w := by
 have hn : (h.toNat : Int) = h := by omega
 have c1 : 0 ≤ l ∧ l ≤ (h.toNat : Int) := by omega
 rcases hh with ⟨rfl, rfl⟩ | ⟨k, rfl, hle⟩
 ·simp only [Int.toNat_natCast] at c1 ⊢
  rcases hl with ⟨rfl, rfl⟩ | ⟨k, rfl⟩
  ·simp [Instr.sliceBounds]
  ·simp [Instr.sliceBounds, Instr.sliceBound, asIntOf, c1]
 ·have c2 : 0 ≤ h ∧ h ≤ (cap : Int) := by omega
  rcases hl with ⟨rfl, rfl⟩ | ⟨k', rfl⟩
  ·simp [Instr.sliceBounds, Instr.sliceBound, asIntOf, c2]
  ·simp only [Instr.sliceBounds, Instr.sliceBound, asIntOf, Option.isSome_none, Bool.false_eq_true, if_false, Sem.run_bind, Sem.run_pure, Result.andThen_ok, c1, c2, and_self, if_true]

theorem low_some {ρ : Operand → Value} {e : Operand → AV} (he : ∀ x, RV κ F w (e x) (ρ x)) {lo : Option Operand} {l : Int} (h : lowOf (lo.map e) = some l) : (lo.map ρ = none ∧ l = 0) ∨ ∃ k, lo.map ρ = some (.int k l) := by
 cases lo with
 | none => simp only [Option.map_none, lowOf, Option.some.injEq] at h; subst h; exact .inl ⟨rfl, rfl⟩
 | some x =>
  simp only [Option.map_some, lowOf] at h
  split at h
  ·rename_i k n hn
   simp only [Option.some.injEq] at h
   subst h
   exact .inr ⟨k, by simp [rv_int hn (he x)]⟩
  ·cases h

theorem exec_slice {o : Oper} {ρ : Operand → Value} {t : TypeId} {x : Operand} {lo hi : Option Operand} (ho : o.op = .slice t x lo hi none) {d : TypeDesc} (hu : P.underlying t = some d) (hd : ∀ n e, d ≠ .array n e) {v : Value}
  (hr : (Instr.slice t (ρ x) (lo.map ρ) (hi.map ρ) none).run P w = .ok v w) : (execOp ρ o).run P w = .ok (.value v) w := by
 unfold execOp
 simp only [ho]
 refine exec_v _ ?_
 simp only [Instr.sliceAt, Sem.run_bind, run_underlying hu, Result.andThen_ok]
 cases d
 case array n e => exact absurd rfl (hd n e)
 all_goals simpa using hr

theorem rd_cut {l : List D} {es : Nat} {a : Option Addr} {cap : Nat} (h1 : l.length ≤ cap) (h2 : cap ≤ maxLen) (h3 : a = none → cap = 0) (h4 : l = [] ∨ ∃ b off us, a = some ⟨b, off, none⟩ ∧ F b ∧ us.length = l.length * es ∧
   (∀ j u, us[j]? = some u → w.cell? ⟨b, off + j, none⟩ = some u) ∧ RE F w es l us) (lo hi : Nat) (hlo : lo ≤ hi) (hhi : hi ≤ l.length) :
  RD F w (.sl es ((l.take hi).drop lo)) (.slice (if cap = lo then a else a.map (·.add (lo * es))) (hi - lo) (cap - lo)) := by
 unfold RD
 have hlen : ((l.take hi).drop lo).length = hi - lo := by rw [List.length_drop, List.length_take]; omega
 refine ⟨_, _, by rw [hlen], by omega, by omega, ?_, ?_⟩
 ·intro hn
  by_cases hc : cap = lo
  ·omega
  ·rw [if_neg hc] at hn
   have : a = none := by cases a <;> simp_all
   have := h3 this
   omega
 ·by_cases he : hi = lo
  ·left
   subst he
   rw [List.drop_eq_nil_of_le (by rw [List.length_take]; omega)]
  ·rcases h4 with rfl | ⟨b, off, us, rfl, hF, hul, hcells, hre⟩
   ·simp at hhi; omega
   ·right
    have hc : cap ≠ lo := by omega
    refine ⟨b, off + lo * es, (us.take (hi * es)).drop (lo * es), by rw [if_neg hc]; simp [Addr.add_lit], hF, ?_, ?_, (hre.take hi).drop lo⟩
    ·exact ((hre.take hi).drop lo).length
    ·intro j u hj
     rw [List.getElem?_drop] at hj
     rw [Nat.add_assoc]
     refine hcells _ u ?_
     rw [List.getElem?_take] at hj
     split at hj
     ·exact hj
     ·cases hj

theorem aft_frz (h : ORel cx κ F w U σ) {o : Nat} {x : Obj'} (hx : σ o = some x) : Aft cx κ F w U κ (fun b => F b ∨ Blk κ o x b) w (Un U nm) (upd σ o none) := by
 have hold : ∀ n y, upd σ o none n = some y → n ≠ o ∧ σ n = some y := fun n y hy => by
  by_cases hn : n = o
  ·subst hn; rw [upd_same] at hy; cases hy
  ·rw [upd_ne hn] at hy; exact ⟨hn, hy⟩
 refine ⟨fun _ _ => rfl, fun b hb => .inl hb, Wx.refl _ _, fun _ ho => un_sub ho, fun n y hy => ?_, fun n y hy => ?_, fun n y hy b hb => ?_, fun n y n' y' hy hy' hne => h.apart n y n' y' (hold n y hy).2 (hold n' y' hy').2 hne, fun b hb => ?_, h.kB, h.gB, h.bs, h.inv.mono (fun b hb => .inl hb) (fun _ _ => rfl), fun j hj => ⟨un_sub (h.lt j hj).1, (h.lt j hj).2⟩⟩
 ·obtain ⟨_, hy⟩ := hold n y hy
  have hu := h.nb n y hy
  exact ObjOK.mono (U := U) (fun _ _ => rfl) (fun b hb => .inl hb) (fun _ _ => rfl) hu.1 hu.2 (fun _ _ => rfl) (h.ok n y hy)
 ·obtain ⟨_, hy⟩ := hold n y hy
  exact ⟨un_sub (h.nb n y hy).1, NBo.mono (fun _ ho => un_sub ho) (h.nb n y hy).2⟩
 ·obtain ⟨hn, hy⟩ := hold n y hy
  have hf := h.free n y hy b hb
  refine ⟨fun hF => ?_, hf.2⟩
  rcases hF with hF | hF
  ·exact hf.1 hF
  ·exact h.apart n y o x hy hx hn b hb hF
 ·rcases hb with hb | hb
  ·exact h.fG b hb
  ·exact ⟨(h.free o x hx b hb).2.2, blk_lt h hx hb⟩

theorem scs_cells : ∀ {cs : List AV} {ds : List D} {us : List Value}, scs cs = some ds → RVc κ F w cs us → ds.length = us.length ∧ RE F w 1 ds us := by
 intro cs
 induction cs with
 | nil =>
  intro ds us h hr
  simp only [scs, Option.some.injEq] at h
  subst h
  unfold RVc at hr
  subst hr
  exact ⟨rfl, by unfold RE; rfl⟩
 | cons c cs ih =>
  intro ds us h hr
  unfold RVc at hr
  obtain ⟨u, us', rfl, h1, h2, h3⟩ := hr
  cases c with
  | dat d =>
   cases d with
   | sc v =>
    simp only [scs] at h
    obtain ⟨r, hr, rfl⟩ := Option.map_eq_some_iff.1 h
    obtain ⟨k1, k2⟩ := ih hr h3
    unfold RV at h2
    refine ⟨by simp [k1], ?_⟩
    unfold RE
    exact ⟨[u], us', rfl, rfl, ⟨u, rfl, h1, h2⟩, k2⟩
   | _ => simp [scs] at h
  | _ => simp [scs] at h

theorem sound_arrAll (hty : ∀ t x, ty t = some x → TyOK P t x) (h : ORel cx κ F w U σ) {o : Oper} {ρ : Operand → Value} {t : TypeId} {x : Operand} (ho : o.op = .slice t x none none none) {n : Nat} {el : TypeId} (hu : P.underlying t = some (.array n el))
  {av : AV} (hx : RV κ F w av (ρ x)) : Sound P cx κ F w U nm σ o ρ (arrAll ty σ n el av) := by
 unfold arrAll
 split
 ·rename_i ob
  split
  ·rename_i bT cs hob
   split
   ·rename_i E ds hE hds
    split
    ·rename_i hc
     obtain ⟨c1, c2, c3⟩ := hc
     intro _
     unfold RV at hx
     obtain ⟨b, hk, hv⟩ := hx
     obtain ⟨b', arr, hk', hheap, hcells⟩ := (show ∃ b arr, (κ ob).v = .pointer (some ⟨b, 0, none⟩) ∧ w.heap[b]? = some (.cells arr _ (0, 0)) ∧ RVc κ F w cs arr.toList from h.ok ob _ hob)
     rw [hk] at hk'
     simp only [Value.pointer.injEq, Option.some.injEq, Addr.mk.injEq, and_true] at hk'
     subst hk'
     obtain ⟨l1, l2⟩ := scs_cells hds hcells
     have hblk : Blk κ ob (.box bT cs) b := .inl (by rw [hk]; rfl)
     refine out_val (v := .slice (some ⟨b, 0, none⟩) n n) (w' := w) ?_ ⟨_, _, κ, _, ⟨rfl, rfl⟩, aft_frz h hob, ?_, by unfold NB; trivial⟩
     ·unfold execOp
      simp only [ho]
      refine exec_v _ ?_
      simp only [Instr.sliceAt, Instr.sureAddr, Instr.sliceBounds, hv, Sem.run_bind, run_underlying hu, Result.andThen_ok, run_sizeOf' (hty _ _ hE), c1]
      simp [Addr.add_lit]
     ·unfold RV RD
      refine ⟨some ⟨b, 0, none⟩, n, by rw [c2], by omega, ?_, by simp, .inr ⟨b, 0, arr.toList, rfl, .inr hblk, by omega, fun j u hj => ?_, RE.mono (fun b hb => .inl hb) (fun _ _ => rfl) l2⟩⟩
      ·unfold maxLen; omega
      ·have hj' : arr[j]? = some u := by rw [← Array.getElem?_toList]; exact hj
       simp [World.cell?, hheap, hj']
    ·intro hp; exact hp.elim
   ·intro hp; exact hp.elim
  ·intro hp; exact hp.elim
 ·intro hp; exact hp.elim

theorem sound_slice (hty : ∀ t x, ty t = some x → TyOK P t x) (h : ORel cx κ F w U σ) (hf : ¬ U nm) {o : Oper} {ρ : Operand → Value} {e : Operand → AV} (he : ∀ x, RV κ F w (e x) (ρ x)) {t : TypeId} {x : Operand} {lo hi : Option Operand} (ho : o.op = .slice t x lo hi none)
  (hrow : ∀ el E ob g k j l hx kk hh, elemOf ty t = some (el, E) → e x = .row ob g k j → hi = some hx → isInt (e hx) = some (kk, hh) → lowOf (lo.map e) = some l → Sound P cx κ F w U nm σ o ρ (rowSlice σ E ob g k j l hh)) :
  Sound P cx κ F w U nm σ o ρ (spec ty Γ σ e nm o) := by
 have hs : spec ty Γ σ e nm o = sliceSpec ty σ nm t (e x) (lo.map e) (hi.map e) := by unfold spec; simp only [ho]
 rw [hs]
 unfold sliceSpec
 split
 ·rename_i size bytes z l hts hl
  have hu := (hty _ _ hts).1
  have hlow := low_some he hl
  split
  ·rename_i s hst
   have vx := rv_str hst (he x)
   have str : ∀ hh : Int, ((hi.map ρ = none ∧ hh = s.size) ∨ ∃ k, hi.map ρ = some (.int k hh) ∧ hh ≤ s.size) → 0 ≤ l → l ≤ hh → (execOp ρ o).run P w = .ok (.value (.string (s.extract l.toNat hh.toNat))) w := by
    intro hh hhi h0 h1
    refine exec_slice ho hu (by simp) ?_
    rw [vx]
    simp only [Instr.slice, Sem.run_bind, run_underlying hu, Result.andThen_ok, Option.isSome_none, Bool.false_eq_true, if_false, run_bounds false s.size s.size hlow hhi h0 h1, Sem.run_pure]
   cases hi with
   | none =>
    simp only [Option.map_none]
    refine sound_det h rfl fun hp => ?_
    simpa using str s.size (.inl ⟨rfl, rfl⟩) hp.1 hp.2
   | some hx =>
    simp only [Option.map_some]
    split
    ·rename_i k hh hn'
     refine sound_det h rfl fun hp => ?_
     exact str hh (.inr ⟨k, by simp [rv_int hn' (he hx)], hp.2.2⟩) hp.1 hp.2.1
    ·intro hp; exact hp.elim
  ·intro hp; exact hp.elim
 ·rename_i n el size bytes z l hts hl
  have hu := (hty _ _ hts).1
  split
  ·rename_i hlo hhi
   have e1 : lo = none := by cases lo with
    | none => rfl
    | some _ => simp at hlo
   have e2 : hi = none := by cases hi with
    | none => rfl
    | some _ => simp at hhi
   subst e1; subst e2
   exact sound_arrAll hty h ho hu (he x)
  ·intro hp; exact hp.elim
 ·rename_i el size bytes z l hts hl
  have hu := (hty _ _ hts).1
  have hlow := low_some he hl
  split
  ·rename_i el' E es xs hel hex
   obtain ⟨hu2, tok⟩ := elemOf_some hty hel
   have hx := he x
   rw [hex] at hx
   unfold RV RD at hx
   obtain ⟨a, cap, hv, g1, g2, g3, g4⟩ := hx
   split
   ·rename_i hes
    have cut : ∀ hh : Int, ((hi.map ρ = none ∧ hh = xs.length) ∨ ∃ k, hi.map ρ = some (.int k hh) ∧ hh ≤ cap) → 0 ≤ l → l ≤ hh → hh ≤ xs.length → ∀ {p : Prop} {rd : List Nat},
      Out P o ρ w (SR cx κ F w U nm σ (.det p rd (.dat (.sl es ((xs.take hh.toNat).drop l.toNat))) [])) := by
     intro hh hhi h0 h1 h2 p rd
     have := rd_cut g1 g2 g3 g4 l.toNat hh.toNat (by omega) (by omega)
     refine out_val (exec_slice ho hu (by simp) ?_) (sr_same h (by unfold RV; exact this) (dat_nb _))
     rw [hv, hes]
     simp only [Instr.slice, Sem.run_bind, run_underlying hu2, Result.andThen_ok, run_bounds true xs.length cap hlow hhi h0 h1, run_sizeOf' tok, Sem.run_pure]
    cases hi with
    | none =>
     simp only [Option.map_none]
     intro hp
     obtain ⟨p1, p2⟩ := (show _ ∧ _ from hp)
     have := cut xs.length (.inl ⟨rfl, rfl⟩) p1 p2 (by omega) (p := (0 ≤ l ∧ l ≤ xs.length)) (rd := [])
     rw [List.take_of_length_le (by omega)] at this
     exact this
    | some hx =>
     simp only [Option.map_some]
     split
     ·rename_i k hh hn'
      intro hp
      obtain ⟨p1, p2, p3⟩ := (show _ ∧ _ ∧ _ from hp)
      exact cut hh (.inr ⟨k, by simp [rv_int hn' (he hx)], by omega⟩) p1 p2 p3
     ·intro hp; exact hp.elim
   ·intro hp; exact hp.elim
  ·rename_i el' E ob hel hex
   obtain ⟨hu2, tok⟩ := elemOf_some hty hel
   have hx := he x
   rw [hex] at hx
   unfold RV at hx
   split
   ·rename_i e' es xs hob
    split
    ·rename_i hes
     obtain ⟨us, hown, hre, hpos⟩ := (show ArrOK F w e' es (κ ob).v xs from h.ok ob _ hob)
     obtain ⟨a, cap, hv⟩ := hown.slice
     have hcap : xs.length ≤ cap := by
      rcases hown.2 with ⟨q1, q2⟩ | ⟨g, f, cap', cur, q1, q3, q4, _⟩
      ·rw [q2]; exact Nat.zero_le _
      ·rw [hv] at q1; simp only [Value.slice.injEq] at q1; rw [q1.2.2]; exact q4
     have cut : ∀ hh : Int, ((hi.map ρ = none ∧ hh = xs.length) ∨ ∃ k, hi.map ρ = some (.int k hh) ∧ hh ≤ cap) → 0 ≤ l → l ≤ hh → hh ≤ xs.length → ∀ {p : Prop} {rd : List Nat},
       Out P o ρ w (SR cx κ F w U nm σ (.det p rd (.own nm) [(ob, none), (nm, some (.arr e' es ((xs.take hh.toNat).drop l.toNat)))])) := by
      intro hh hhi h0 h1 h2 p rd
      obtain ⟨k1, k2⟩ := hown.cut hv (l := l.toNat) (m := hh.toNat) (by omega) (by omega)
      have hlen : ((xs.take hh.toNat).drop l.toNat).length = hh.toNat - l.toNat := by rw [List.length_drop, List.length_take]; omega
      refine out_val (v := .slice (if cap = l.toNat then a else a.map (·.add (l.toNat * es))) (hh.toNat - l.toNat) (cap - l.toNat)) (w' := w) (exec_slice ho hu (by simp) ?_) ?_
      ·rw [hx.1, hv, hes]
       simp only [Instr.slice, Sem.run_bind, run_underlying hu2, Result.andThen_ok, run_bounds true xs.length cap hlow hhi h0 h1, run_sizeOf' tok, Sem.run_pure]
      ·refine ⟨.own nm, _, (fun n => if n = nm then kv (.slice (if cap = l.toNat then a else a.map (·.add (l.toNat * es))) (hh.toNat - l.toNat) (cap - l.toNat)) else κ n), F, ⟨rfl, rfl⟩, ?_, ?_, own_nb _ nm_un⟩
       ·refine aft_append h hf (v := κ ob) (oo := some ob) (fun o' ho' => by simp at ho'; subst ho'; exact ⟨⟨_, hob⟩, rfl⟩) (by simp) ⟨rfl, rfl, rfl, Nat.le_refl _, fun _ _ _ => rfl⟩ ⟨_, _, _, hv⟩ ?_ (us := (us.take (hh.toNat * es)).drop (l.toNat * es)) ?_ ((hre.take hh.toNat).drop l.toNat) hpos
        ·left
         rw [← ownBlock_blk _ ⟨_, _, _, rfl⟩, ← ownBlock_blk _ ⟨_, _, _, hv⟩]; exact k2
        ·rw [hlen]; exact k1
       ·unfold RV; exact ⟨by simp, rfl⟩
     cases hi with
     | none =>
      simp only [Option.map_none]
      intro hp
      obtain ⟨p1, p2⟩ := (show _ ∧ _ from hp)
      have := cut xs.length (.inl ⟨rfl, rfl⟩) p1 p2 (by omega) (p := (0 ≤ l ∧ l ≤ xs.length)) (rd := [ob])
      rw [List.take_of_length_le (by omega)] at this
      exact this
     | some hx' =>
      simp only [Option.map_some]
      split
      ·rename_i k hh hn'
       intro hp
       obtain ⟨p1, p2, p3⟩ := (show _ ∧ _ ∧ _ from hp)
       exact cut hh (.inr ⟨k, by simp [rv_int hn' (he hx')], by omega⟩) p1 p2 p3
      ·intro hp; exact hp.elim
    ·intro hp; exact hp.elim
   ·intro hp; exact hp.elim
  ·rename_i el' E ob g k j hel hex
   cases hi with
   | none => intro hp; exact hp.elim
   | some hx' =>
    simp only [Option.map_some]
    split
    ·rename_i kk hh hn'
     exact hrow el' E ob g k j l hx' kk hh hel hex rfl hn' hl
    ·intro hp; exact hp.elim
  ·intro hp; exact hp.elim
 ·intro hp; exact hp.elim

theorem sound_extract (h : ORel cx κ F w U σ) {o : Oper} {ρ : Operand → Value} {e : Operand → AV} (he : ∀ x, RV κ F w (e x) (ρ x)) (hn : ∀ x, NB U (e x)) {x : Operand} {i : Nat} (ho : o.op = .extract x i) :
  Sound P cx κ F w U nm σ o ρ (spec ty Γ σ e nm o) := by
 unfold spec
 simp only [ho]
 have hx := he x
 have hnx := hn x
 split
 ·rename_i l hex
  rw [hex] at hx hnx
  unfold RV at hx; unfold NB at hnx
  obtain ⟨cs, hv, hr⟩ := hx
  split
  ·rename_i v hi
   intro _
   have : ∀ {l : List AV} {cs : List Value} (i : Nat) (v : AV), RVs κ F w l cs → l[i]? = some v → ∃ u, cs[i]? = some u ∧ RV κ F w v u := by
    intro l
    induction l with
    | nil => intro cs i v _ hi; simp at hi
    | cons a l ih =>
     intro cs i v hr hi
     unfold RVs at hr
     obtain ⟨u, us, rfl, h1, h2⟩ := hr
     cases i with
     | zero => simp at hi; subst hi; exact ⟨u, by simp, h1⟩
     | succ i => simpa using ih i v h2 (by simpa using hi)
   obtain ⟨u, h1, h2⟩ := this i v hr hi
   refine out_val (v := u) (w' := w) ?_ (sr_same h h2 (NBs.at i v hnx hi))
   unfold execOp
   simp only [ho]
   refine exec_v _ ?_
   simp [Instr.extract, hv, h1]
  ·intro hp; exact hp.elim
 ·intro hp; exact hp.elim

theorem aggC_of {x : AV} {l : List AV} {v : Value} (hx : aggC x = some l) (hv : RV κ F w x v) (hn : NB U x) : ∃ cs : List Value, v = .agg cs.toArray ∧ RVc κ F w l cs ∧ NBs U l := by
 unfold aggC at hx
 split at hx
 ·cases hx
  unfold RV at hv; unfold NB at hn
  obtain ⟨cs, h1, h2⟩ := hv
  exact ⟨cs, h1, h2, hn⟩
 ·rename_i l0
  cases hx
  have h3 := cells_of (x := .dat (.agg l0)) rfl hv hn
  unfold RV RD at hv
  obtain ⟨cs, h1, h2⟩ := hv
  subst h1
  exact ⟨cs, rfl, by simpa [Value.cells] using h3.1, h3.2⟩
 ·cases hx
theorem extract_list (l : List Value) (i n : Nat) : l.toArray.extract i (i + n) = ((l.drop i).take n).toArray := by
 simp [List.take_drop]
theorem sound_fieldV (hty : ∀ t x, ty t = some x → TyOK P t x) (h : ORel cx κ F w U σ) {o : Oper} {ρ : Operand → Value} {e : Operand → AV} (he : ∀ x, RV κ F w (e x) (ρ x)) (hn : ∀ x, NB U (e x)) {s : TypeId} {x : Operand} {f : Nat} (ho : o.op = .field s x f) :
  Sound P cx κ F w U nm σ o ρ (spec ty Γ σ e nm o) := by
 have hs : spec ty Γ σ e nm o = fieldV ty s (e x) f := by unfold spec; simp only [ho]
 rw [hs]
 unfold fieldV
 split
 ·rename_i size fs bytes zero hts
  have hu := (hty _ _ hts).1
  split
  ·rename_i fl hfl
   split
   ·rename_i T l hT hl
    obtain ⟨cs, h1, h2, h3⟩ := aggC_of hl (he x) (hn x)
    have tok := hty _ _ hT
    split
    ·rename_i hg
     split
     ·rename_i hle
      intro _
      refine out_val (v := .agg ((cs.drop fl.offset).take T.size).toArray) (w' := w) ?_ (sr_same h (rv_mkAgg ((h2.drop fl.offset).take T.size)) (mkAgg_nb ((NBs.drop fl.offset h3).take T.size)))
      unfold execOp
      simp only [ho]
      refine exec_v _ ?_
      simp only [Instr.field, Sem.run_bind, run_underlying hu, Result.andThen_ok, hfl, h1, asAgg, Sem.run_pure, part, run_isAgg' tok, hg, if_true, run_sizeOf' tok, extract_list]
     ·intro hp; exact hp.elim
    ·rename_i hg
     split
     ·rename_i v hv
      intro _
      obtain ⟨u, g1, g2, g3⟩ := RVc.at fl.offset v h2 hv
      refine out_val (v := u) (w' := w) ?_ (sr_same h g3 (NBs.at _ v h3 hv))
      unfold execOp
      simp only [ho]
      refine exec_v _ ?_
      have hg' : T.isAgg = false := by simpa using hg
      simp only [Instr.field, Sem.run_bind, run_underlying hu, Result.andThen_ok, hfl, h1, asAgg, Sem.run_pure, part, run_isAgg' tok, hg', Bool.false_eq_true, if_false, List.getElem?_toArray, g1]
     ·intro hp; exact hp.elim
   ·intro hp; exact hp.elim
  ·intro hp; exact hp.elim
 ·intro hp; exact hp.elim

theorem sound_arrVal (hty : ∀ t x, ty t = some x → TyOK P t x) (h : ORel cx κ F w U σ) {o : Oper} {ρ : Operand → Value} {e : Operand → AV} (he : ∀ x, RV κ F w (e x) (ρ x)) (hn : ∀ x, NB U (e x)) {t : TypeId} {x i : Operand} (ho : o.op = .index t x i) :
  Sound P cx κ F w U nm σ o ρ (arrVal ty t (e x) (e i)) := by
 unfold arrVal
 split
 ·rename_i len el size bytes zero _ k n hts hi
  have hu := (hty _ _ hts).1
  have vi := rv_int hi (he i)
  split
  ·rename_i E l hE hl
   obtain ⟨cs, h1, h2, h3⟩ := aggC_of hl (he x) (hn x)
   have tok := hty _ _ hE
   split
   ·rename_i hg
    split
    ·rename_i hle
     intro hp
     obtain ⟨p1, p2⟩ := (show _ ∧ _ from hp)
     have hc : 0 ≤ n ∧ n < (len : Int) := ⟨p1, p2⟩
     refine out_val (v := .agg ((cs.drop (n.toNat * E.size)).take E.size).toArray) (w' := w) ?_ (sr_same h (rv_mkAgg ((h2.drop _).take E.size)) (mkAgg_nb ((NBs.drop _ h3).take E.size)))
     unfold execOp
     simp only [ho]
     refine exec_v _ ?_
     simp only [Instr.index, vi, asIntOf, Sem.run_bind, run_underlying hu, Result.andThen_ok, h1, Sem.run_pure, part, hc, and_self, run_isAgg' tok, hg, if_true, run_sizeOf' tok, extract_list]
    ·intro hp; exact hp.elim
   ·rename_i hg
    split
    ·rename_i v hv
     intro hp
     obtain ⟨p1, p2⟩ := (show _ ∧ _ from hp)
     have hc : 0 ≤ n ∧ n < (len : Int) := ⟨p1, p2⟩
     obtain ⟨u, g1, g2, g3⟩ := RVc.at _ v h2 hv
     refine out_val (v := u) (w' := w) ?_ (sr_same h g3 (NBs.at _ v h3 hv))
     unfold execOp
     simp only [ho]
     refine exec_v _ ?_
     have hg' : E.isAgg = false := by simpa using hg
     simp only [Instr.index, vi, asIntOf, Sem.run_bind, run_underlying hu, Result.andThen_ok, h1, Sem.run_pure, part, hc, and_self, if_true, run_isAgg' tok, hg', Bool.false_eq_true, if_false, run_sizeOf' tok, List.getElem?_toArray, g1]
    ·intro hp; exact hp.elim
  ·intro hp; exact hp.elim
 ·intro hp; exact hp.elim
theorem sound_str_index (hty : ∀ t x, ty t = some x → TyOK P t x) (h : ORel cx κ F w U σ) {o : Oper} {ρ : Operand → Value} {e : Operand → AV} (he : ∀ x, RV κ F w (e x) (ρ x)) (hn : ∀ x, NB U (e x)) {t : TypeId} {x i : Operand} (ho : o.op = .index t x i) :
  Sound P cx κ F w U nm σ o ρ (spec ty Γ σ e nm o) := by
 unfold spec
 simp only [ho]
 split
 ·rename_i size bytes z s k n hts hst hi
  have hu := (hty _ _ hts).1
  have vx := rv_str hst (he x)
  have vi := rv_int hi (he i)
  refine sound_det h rfl fun hp => ?_
  obtain ⟨p1, p2⟩ := (show _ ∧ _ from hp)
  unfold execOp
  simp only [ho]
  refine exec_v _ ?_
  have hlt : n.toNat < s.size := by omega
  have hb : s[n.toNat]? = some (s.data.toList.getD n.toNat 0) := by
   rw [getElem?_pos s n.toNat hlt]
   congr 1
   have : s.data.toList.getD n.toNat 0 = s.data[n.toNat]'hlt := by
    rw [List.getD_eq_getElem?_getD, List.getElem?_eq_getElem (by simpa using hlt)]; simp
   rw [this]; rfl
  simp only [Instr.index, vx, vi, asIntOf, Sem.run_bind, Sem.run_pure, Result.andThen_ok, run_underlying hu, p1, if_true, hb]
 ·exact sound_arrVal hty h he hn ho

theorem sound_not (h : ORel cx κ F w U σ) {o : Oper} {ρ : Operand → Value} {e : Operand → AV} (he : ∀ x, RV κ F w (e x) (ρ x)) {t : TypeId} {x : Operand} (ho : o.op = .unOp .not t x) :
  Sound P cx κ F w U nm σ o ρ (spec ty Γ σ e nm o) := by
 unfold spec
 simp only [ho]
 split
 ·rename_i b hb
  have vx := rv_bool hb (he x)
  refine sound_boolV h ?_
  unfold execOp
  simp only [ho]
  refine exec_v _ ?_
  simp [vx, Op.unary]
 ·intro hp; exact hp.elim

theorem sound_neg (h : ORel cx κ F w U σ) {o : Oper} {ρ : Operand → Value} {e : Operand → AV} (he : ∀ x, RV κ F w (e x) (ρ x)) {t : TypeId} {x : Operand} (ho : o.op = .unOp .neg t x) :
  Sound P cx κ F w U nm σ o ρ (spec ty Γ σ e nm o) := by
 unfold spec
 simp only [ho]
 split
 ·rename_i k n hb
  have vx := rv_int hb (he x)
  refine sound_intBd h ?_
  unfold execOp
  simp only [ho]
  refine exec_v _ ?_
  simp [vx, Op.unary, Op.intArith]
 ·intro hp; exact hp.elim

theorem re_u8 {F : Nat → Prop} {w : World} : ∀ {l : List D} {us : List Value}, (∀ d ∈ l, ∃ b : UInt8, d = .sc (.int .u8 b.toNat)) → RE F w 1 l us → us = l.map fun d => Value.int .u8 (dU8 d).toNat
 | [], us, _, h => by unfold RE at h; simpa using h
 | d :: l, us, hd, h => by
  obtain ⟨u, us', rfl, hu, hc, h2⟩ := h.cons
  obtain ⟨b, rfl⟩ := hd d (List.mem_cons_self ..)
  have ih := re_u8 (fun d hd' => hd d (List.mem_cons_of_mem _ hd')) h2
  unfold D.cells RC at hc
  obtain ⟨y, ys, rfl, _, hy, hys⟩ := hc
  unfold RC at hys; subst hys
  unfold RD at hy
  rw [hy.1, ih]
  simp [dU8]
theorem u8_re : ∀ (l : List UInt8), RE F w 1 (l.map fun b => .sc (.int .u8 b.toNat)) (l.map fun b => Value.int .u8 b.toNat)
 | [] => by unfold RE; rfl
 | x :: a => by
  rw [List.map_cons, List.map_cons]
  unfold RE
  refine ⟨[Value.int .u8 x.toNat], a.map fun b => Value.int .u8 b.toNat, rfl, rfl, ?_, u8_re a⟩
  show ∃ y, [Value.int .u8 x.toNat] = [y] ∧ one y = true ∧ RD F w (.sc (.int .u8 x.toNat)) y
  refine ⟨_, rfl, rfl, ?_⟩
  unfold RD
  exact ⟨rfl, rfl⟩
theorem sound_conv (hty : ∀ t x, ty t = some x → TyOK P t x) (h : ORel cx κ F w U σ) (hf : ¬ U nm) {o : Oper} {ρ : Operand → Value} {e : Operand → AV} (he : ∀ x, RV κ F w (e x) (ρ x)) {s d : TypeId} {x : Operand} (ho : o.op = .convert s d x) :
  Sound P cx κ F w U nm σ o ρ (convSpec ty σ nm s d (e x)) := by
 unfold convSpec
 split
 ·rename_i el ss sb sz sq ds db dz dq l rd hs hd hsl
  split
  ·rename_i hel
   have h1 := (hty _ _ hs).1
   have h2 := (hty _ _ hd).1
   have h3 := (hty _ _ hel).1
   intro hp
   have hp : ∀ d ∈ l, ∃ b : UInt8, d = .sc (.int .u8 b.toNat) := hp
   obtain ⟨a, c, us, hv, hac, hul, hre, hcell⟩ := slOf_some h hsl (he x)
   have hus := re_u8 hp hre
   refine out_val (v := .string (bytesD l)) (w' := w) ?_ (sr_same h (by unfold RV RD; exact ⟨rfl, rfl⟩) (by unfold NB; trivial))
   unfold execOp
   simp only [ho]
   refine exec_v _ ?_
   rw [hv, run_convert_bytes_string w s d el a l.length c h1 h3 h2]
   cases a with
   | none =>
    have hl : l = [] := List.length_eq_zero_iff.1 (hac rfl).1
    subst hl
    simp only [Conv.bytesToString, Sem.run_pure]
    rfl
   | some ad =>
    have hld : (loadCells ad l.length).run P w = .ok ((l.map fun d => ((dU8 d).toNat : Int)).map (Value.int .u8)).toArray w := by
     have := run_loadCells_list (P := P) w ad us (hcell ad rfl)
     rw [hul, Nat.mul_one] at this
     rw [this, hus, List.map_map]; rfl
    rw [run_bytesToString w ad l.length c _ hld, List.foldl_map]
    have hf : ∀ (l : List D) (s : ByteArray), l.foldl (fun r d => r.push (UInt8.ofNat ((dU8 d).toNat : Int).toNat)) s = ⟨s.data ++ (l.map dU8).toArray⟩ := by
     intro l
     induction l with
     | nil => intro s; simp
     | cons d l ih =>
      intro s
      rw [List.foldl_cons, ih]
      simp [ByteArray.push]
    rw [hf]
    simp [bytesD, ByteArray.empty, ByteArray.emptyWithCapacity]
    try rfl
  ·intro hp; exact hp.elim
 ·rename_i el _ _ _ _ hs hd
  split
  ·rename_i str _ _ _ _ hx hel
   have h1 := (hty _ _ hs).1
   have h2 := (hty _ _ hd).1
   have h3 := (hty _ _ hel).1
   intro hp
   have hp : str.size ≤ 4294967296 := hp
   have hv := rv_str hx (he x)
   have hge := grownCap_ge w str.size 0 el
   have hle := grownCap_le_maxLen w str.size 0 el (by unfold maxLen; omega)
   have hsz : (bytesRow str (grownCap w str.size 0 el)).size = grownCap w str.size 0 el := by
    unfold bytesRow
    simp only [Array.size_append, Array.size_map, Array.size_replicate]
    have : str.data.size = str.size := rfl
    omega
   have hdl : str.data.toList.length = str.size := by rw [Array.length_toList]; rfl
   have hlen : (str.data.toList.map fun b => (D.sc (.int .u8 b.toNat))).length = str.size := by rw [List.length_map]; exact hdl
   have hown : Own (w.drew.alloc (.cells (bytesRow str (grownCap w str.size 0 el)) el ((bytesRow str (grownCap w str.size 0 el)).size, (bytesRow str (grownCap w str.size 0 el)).size + 1))) (el + 4294967296) 1 (.slice (some ⟨w.heap.size, 0, none⟩) str.size (grownCap w str.size 0 el)) str.size (str.data.toList.map fun b => Value.int .u8 b.toNat) := by
    refine ⟨by rw [List.length_map, Nat.mul_one]; exact hdl, .inr ⟨w.heap.size, 0, _, _, rfl, ⟨_, _, heap_alloc_new w.drew _, .inr ⟨by omega, Nat.le_refl _⟩⟩, hge, hle, by omega, ?_⟩⟩
    unfold bytesRow
    rw [List.drop_zero, Array.toList_append, Nat.mul_one, Array.toList_map]
    exact List.take_left' (by rw [List.length_map]; exact hdl)
   have ha := aft_append (cx := cx) (κ := κ) (σ := σ) (nm := nm) h hf (v := .slice none 0 0) (oo := none) (by intro o ho; cases ho) (fun _ => rfl)
    (w' := w.drew.alloc (.cells (bytesRow str (grownCap w str.size 0 el)) el ((bytesRow str (grownCap w str.size 0 el)).size, (bytesRow str (grownCap w str.size 0 el)).size + 1)))
    ⟨rfl, rfl, rfl, by simp, fun k hk _ => Go.RowKit.Below.heap_alloc w.drew _ k hk⟩ ⟨_, _, _, rfl⟩ (.inr rfl) (by rw [hlen]; exact hown) (u8_re str.data.toList) (by omega)
   refine out_val (v := .slice (some ⟨w.heap.size, 0, none⟩) str.size (grownCap w str.size 0 el)) ?_ (sr_new ha (by unfold RV; exact ⟨by simp, rfl⟩) (own_nb _ nm_un))
   unfold execOp
   simp only [ho]
   refine exec_v _ ?_
   rw [hv, run_bytes_of_string w s d el str h1 h2 h3]
  ·intro hp; exact hp.elim
 ·intro hp; exact hp.elim

theorem sound_convert (hty : ∀ t x, ty t = some x → TyOK P t x) (h : ORel cx κ F w U σ) (hf : ¬ U nm) {o : Oper} {ρ : Operand → Value} {e : Operand → AV} (he : ∀ x, RV κ F w (e x) (ρ x)) {s d : TypeId} {x : Operand} (ho : o.op = .convert s d x) :
  Sound P cx κ F w U nm σ o ρ (spec ty Γ σ e nm o) := by
 unfold spec
 simp only [ho]
 split
 ·rename_i hs hd hx
  have h1 := (hty _ _ hs).1
  have h2 := (hty _ _ hd).1
  have vx := rv_int hx (he x)
  refine sound_det h rfl fun _ => ?_
  unfold execOp
  simp only [ho]
  refine exec_v _ ?_
  simp only [convert, Sem.run_bind, run_underlying h1, run_underlying h2, Result.andThen_ok, vx, Conv.intToInt, Sem.run_pure]
 ·exact sound_conv hty h hf he ho

theorem sound_nilCheck (h : ORel cx κ F w U σ) {o : Oper} {ρ : Operand → Value} {e : Operand → AV} (he : ∀ x, RV κ F w (e x) (ρ x)) (hn : ∀ x, NB U (e x)) {x : Operand} (ho : o.op = .nilCheck x) :
  Sound P cx κ F w U nm σ o ρ (spec ty Γ σ e nm o) := by
 unfold spec
 simp only [ho]
 have hx := he x
 have hnx := hn x
 have run : ∀ a, ρ x = .pointer (some a) → (execOp ρ o).run P w = .ok (.value (ρ x)) w := by
  intro a ha
  unfold execOp
  simp [ho, ha]
 split
 ·rename_i ob i hex
  rw [hex] at hx hnx
  intro _
  have hx' := hx
  unfold RV at hx'
  obtain ⟨b, _, hρ⟩ := hx'
  exact out_val (run _ hρ) (sr_same h hx hnx)
 ·rename_i ob es k j hex
  rw [hex] at hx hnx
  intro _
  have hx' := hx
  unfold RV at hx'
  obtain ⟨b, f, n, cap, _, hρ⟩ := hx'
  exact out_val (run _ hρ) (sr_same h hx hnx)
 ·rename_i ob g k j es i c hex
  rw [hex] at hx hnx
  intro _
  have hx' := hx
  unfold RV at hx'
  obtain ⟨b, f, n, cap, _, hρ⟩ := hx'
  exact out_val (run _ hρ) (sr_same h hx hnx)
 ·rename_i l hex
  rw [hex] at hx hnx
  intro _
  have hx' := hx
  unfold RV at hx'
  obtain ⟨b, off, us, hρ, _⟩ := hx'
  exact out_val (run _ hρ) (sr_same h hx hnx)
 ·intro hp; exact hp.elim

theorem sound_max (h : ORel cx κ F w U σ) {o : Oper} {ρ : Operand → Value} {e : Operand → AV} (he : ∀ x, RV κ F w (e x) (ρ x)) {x y : Operand} {ts : Array TypeId} (ho : o.op = .call { callee := .builtin .max, args := #[x, y], argTypes := ts }) {k k' : IntKind} {a b : Int} (hx : isInt (e x) = some (k, a)) (hy : isInt (e y) = some (k', b)) :
  Sound P cx κ F w U nm σ o ρ (.det True [] (.dat (.sc (.int k (if b > a then b else a)))) []) := by
 have vx := rv_int hx (he x)
 have vy := rv_int hy (he y)
 refine sound_det h rfl fun _ => ?_
 unfold execOp
 simp only [ho, resolve, invoke, builtin, Sem.run_bind, Sem.run_pure, Result.andThen_ok, List.map_toArray, List.map_cons, List.map_nil, vx, vy, Builtin.max_, List.foldlM_cons, List.foldlM_nil, Builtin.max2]

theorem sound_max3 (h : ORel cx κ F w U σ) {o : Oper} {ρ : Operand → Value} {e : Operand → AV} (he : ∀ x, RV κ F w (e x) (ρ x)) {x y z : Operand} {ts : Array TypeId} (ho : o.op = .call { callee := .builtin .max, args := #[x, y, z], argTypes := ts }) {k k' k2 : IntKind} {a b c : Int} (hx : isInt (e x) = some (k, a)) (hy : isInt (e y) = some (k', b)) (hz : isInt (e z) = some (k2, c)) :
  Sound P cx κ F w U nm σ o ρ (.det True [] (.dat (.sc (.int k (if c > (if b > a then b else a) then c else (if b > a then b else a))))) []) := by
 have vx := rv_int hx (he x)
 have vy := rv_int hy (he y)
 have vz := rv_int hz (he z)
 refine sound_det h rfl fun _ => ?_
 unfold execOp
 simp only [ho, resolve, invoke, builtin, Sem.run_bind, Sem.run_pure, Result.andThen_ok, List.map_toArray, List.map_cons, List.map_nil, vx, vy, vz, Builtin.max_, List.foldlM_cons, List.foldlM_nil, Builtin.max2]

theorem sound_min (h : ORel cx κ F w U σ) {o : Oper} {ρ : Operand → Value} {e : Operand → AV} (he : ∀ x, RV κ F w (e x) (ρ x)) {x y : Operand} {ts : Array TypeId} (ho : o.op = .call { callee := .builtin .min, args := #[x, y], argTypes := ts }) {k k' : IntKind} {a b : Int} (hx : isInt (e x) = some (k, a)) (hy : isInt (e y) = some (k', b)) :
  Sound P cx κ F w U nm σ o ρ (.det True [] (.dat (.sc (.int k (if b < a then b else a)))) []) := by
 have vx := rv_int hx (he x)
 have vy := rv_int hy (he y)
 refine sound_det h rfl fun _ => ?_
 unfold execOp
 simp only [ho, resolve, invoke, builtin, Sem.run_bind, Sem.run_pure, Result.andThen_ok, List.map_toArray, List.map_cons, List.map_nil, vx, vy, Builtin.min_, List.foldlM_cons, List.foldlM_nil, Builtin.min2]

end
end Go.Ab
