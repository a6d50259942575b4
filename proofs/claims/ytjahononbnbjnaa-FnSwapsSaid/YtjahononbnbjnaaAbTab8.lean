/- My own layer: tables: what their operations leave (8): a row is taken out and appended to. -/
import Derived.Test.YtjahononbnbjnaaAbTab7
namespace Go.Ab
set_option linter.unusedVariables false
set_option linter.unusedSimpArgs false
section
variable {P : Program} {cx : Cx} {κ : Kap} {F : Nat → Prop} {w : World} {U : Nat → Prop} {nm : Nat} {σ : Objs} {ty : TypeId → Option TyE} {Γ : Nat → Option FnSpec}

theorem orel_steal (ho : ORel cx κ F w U σ) {n o g k j : Nat} (hn : ¬ U n) {t : TabV} (ht : tabAt σ o g = some t) (hh : t.hole = none) (hk : k < t.l.length) {e' : TypeId} (hm : maskAt t.mask j = some e') :
  ORel cx (kapN κ n (kv ((κ g).r k j))) F w (fun m => U m ∨ m = n) (upd (upd σ o (some (.tab t.e t.es t.mask t.l g (some (k, j))))) n (some (.arr e' (rowOf t.l k j).1 (rowOf t.l k j).2))) := by
 have hob := tabAt_some ht
 rw [hh] at hob
 have hmS : (maskAt t.mask j).isSome = true := by rw [hm]; rfl
 have hnbo := ho.nb o _ hob
 obtain ⟨e2, hm2, harr, hcell, hrow⟩ := row_of ho ht hk hmS (by rw [hh]; rfl)
 rw [hm] at hm2; cases hm2
 rw [hh] at hrow
 have hκ : ∀ m, U m → kapN κ n (kv ((κ g).r k j)) m = κ m := fun m hm => by
  have : m ≠ n := fun e => hn (e ▸ hm)
  simp [kapN, this]
 have hκn : kapN κ n (kv ((κ g).r k j)) n = kv ((κ g).r k j) := by simp [kapN]
 have hon : o ≠ n := fun e => hn (e ▸ hnbo.1)
 have htab : TabOK F w t.e t.es t.mask t.l (κ o).v (κ g).r none := ho.ok o _ hob
 have hirow : ∀ k' j', isRow t.mask t.l.length (some (k, j)) k' j' → isRow t.mask t.l.length none k' j' ∧ (k', j') ≠ (k, j) := fun k' j' h => ⟨⟨h.1, h.2.1, by simp⟩, fun e => h.2.2 (by rw [e])⟩
 have hσ : ∀ m y, upd (upd σ o (some (.tab t.e t.es t.mask t.l g (some (k, j))))) n (some (.arr e' (rowOf t.l k j).1 (rowOf t.l k j).2)) m = some y →
   (m = n ∧ y = .arr e' (rowOf t.l k j).1 (rowOf t.l k j).2) ∨ (m ≠ n ∧ m = o ∧ y = .tab t.e t.es t.mask t.l g (some (k, j))) ∨ (m ≠ n ∧ m ≠ o ∧ σ m = some y) := fun m y hy => by
  by_cases h1 : m = n
  ·subst h1; rw [upd_same] at hy; exact .inl ⟨rfl, (Option.some.inj hy).symm⟩
  ·rw [upd_ne h1] at hy
   by_cases h2 : m = o
   ·subst h2; rw [upd_same] at hy; exact .inr (.inl ⟨h1, rfl, (Option.some.inj hy).symm⟩)
   ·rw [upd_ne h2] at hy; exact .inr (.inr ⟨h1, h2, hy⟩)
 have hblk : ∀ m y, upd (upd σ o (some (.tab t.e t.es t.mask t.l g (some (k, j))))) n (some (.arr e' (rowOf t.l k j).1 (rowOf t.l k j).2)) m = some y → ∀ b, Blk (kapN κ n (kv ((κ g).r k j))) m y b →
   (m = n ∧ blk ((κ g).r k j) = some b) ∨ (m = o ∧ m ≠ n ∧ (blk (κ o).v = some b ∨ ∃ k' j', isRow t.mask t.l.length none k' j' ∧ (k', j') ≠ (k, j) ∧ blk ((κ g).r k' j') = some b)) ∨ (m ≠ n ∧ m ≠ o ∧ σ m = some y ∧ Blk κ m y b) := by
  intro m y hy b hb
  rcases hσ m y hy with ⟨rfl, rfl⟩ | ⟨h1, rfl, rfl⟩ | ⟨h1, h2, h3⟩
  ·rcases hb with hb | hb
   ·rw [hκn] at hb; exact .inl ⟨rfl, hb⟩
   ·exact hb.elim
  ·refine .inr (.inl ⟨rfl, h1, ?_⟩)
   rcases hb with hb | ⟨k', j', hr', hb⟩
   ·rw [hκ m hnbo.1] at hb; exact .inl hb
   ·rw [hκ g hnbo.2] at hb
    obtain ⟨q1, q2⟩ := hirow k' j' hr'
    exact .inr ⟨k', j', q1, q2, hb⟩
  ·have hu := ho.nb m y h3
   exact .inr (.inr ⟨h1, h2, h3, hb.kap hκ hu.1 hu.2⟩)
 refine ⟨fun m y hy => ?_, fun m y hy => ?_, fun m y hy b hb => ?_, fun m y m' y' hy hy' hne b hb hb' => ?_, ho.fG, ho.kB, ho.gB, ho.bs, ho.inv, fun j' hj' => ⟨.inl (ho.lt j' hj').1, by rw [hκ j' (ho.lt j' hj').1]; exact (ho.lt j' hj').2⟩⟩
 ·rcases hσ m y hy with ⟨rfl, rfl⟩ | ⟨h1, rfl, rfl⟩ | ⟨h1, h2, h3⟩
  ·show ArrOK F w e' (rowOf t.l k j).1 (kapN κ m (kv ((κ g).r k j)) m).v (rowOf t.l k j).2
   rw [hκn]; exact harr
  ·show TabOK F w t.e t.es t.mask t.l (kapN κ n (kv ((κ g).r k j)) m).v (kapN κ n (kv ((κ g).r k j)) g).r (some (k, j))
   rw [hκ m hnbo.1, hκ g hnbo.2]
   obtain ⟨us, hown, hul, hc⟩ := htab.mem
   refine ⟨htab.pos, htab.mlen, htab.cells, ⟨us, hown, hul, fun k' d j' c hk' hd => ?_⟩, fun k1 j1 k2 j2 q1 q2 hne => htab.apart k1 j1 k2 j2 (hirow _ _ q1).1 (hirow _ _ q2).1 hne, fun k1 j1 q1 => htab.outer k1 j1 (hirow _ _ q1).1⟩
   obtain ⟨x, x1, x2, x3⟩ := hc k' d j' c hk' hd
   refine ⟨x, x1, x2, ?_⟩
   cases hm' : maskAt t.mask j' with
   | none => rw [hm'] at x3; exact x3
   | some e2 =>
    rw [hm'] at x3
    simp only [] at x3 ⊢
    rcases x3 with ⟨x4, x3 | x3⟩
    ·cases x3
    ·exact ⟨x4, .inr x3⟩
  ·have hu := ho.nb m y h3
   exact ObjOK.mono hκ (fun _ hb => hb) (fun _ _ => rfl) hu.1 hu.2 (fun _ _ => rfl) (ho.ok m y h3)
 ·rcases hσ m y hy with ⟨rfl, rfl⟩ | ⟨h1, rfl, rfl⟩ | ⟨h1, h2, h3⟩
  ·exact ⟨.inr rfl, trivial⟩
  ·exact ⟨.inl hnbo.1, .inl hnbo.2⟩
  ·have hu := ho.nb m y h3
   exact ⟨.inl hu.1, NBo.mono (fun _ h => .inl h) hu.2⟩
 ·rcases hblk m y hy b hb with ⟨_, h1⟩ | ⟨_, _, h1⟩ | ⟨_, _, h1, h2⟩
  ·exact ho.free o _ hob b (.inr ⟨k, j, hrow, h1⟩)
  ·refine ho.free o _ hob b ?_
   rcases h1 with h1 | ⟨k', j', q1, _, q2⟩
   ·exact .inl h1
   ·exact .inr ⟨k', j', q1, q2⟩
  ·exact ho.free m y h1 b h2
 ·rcases hblk m y hy b hb with ⟨rfl, h1⟩ | ⟨rfl, _, h1⟩ | ⟨q1, q2, h1, h2⟩
  ·rcases hblk m' y' hy' b hb' with ⟨rfl, _⟩ | ⟨rfl, _, g1⟩ | ⟨q1', q2', g1, g2⟩
   ·exact hne rfl
   ·rcases g1 with g1 | ⟨k', j', r1, r2, r3⟩
    ·exact htab.outer k j hrow b h1 g1
    ·exact htab.apart k' j' k j r1 hrow r2 b r3 h1
   ·exact ho.apart o _ m' y' hob g1 (Ne.symm q2') b (.inr ⟨k, j, hrow, h1⟩) g2
  ·have hB : Blk κ m (.tab t.e t.es t.mask t.l g none) b := by
    rcases h1 with h1 | ⟨k', j', r1, _, r3⟩
    ·exact .inl h1
    ·exact .inr ⟨k', j', r1, r3⟩
   rcases hblk m' y' hy' b hb' with ⟨rfl, g1⟩ | ⟨rfl, _, _⟩ | ⟨q1', q2', g1, g2⟩
   ·rcases h1 with h1 | ⟨k', j', r1, r2, r3⟩
    ·exact htab.outer k j hrow b g1 h1
    ·exact htab.apart k' j' k j r1 hrow r2 b r3 g1
   ·exact hne rfl
   ·exact ho.apart m _ m' y' hob g1 (Ne.symm q2') b hB g2
  ·rcases hblk m' y' hy' b hb' with ⟨rfl, g1⟩ | ⟨rfl, _, g1⟩ | ⟨q1', q2', g1, g2⟩
   ·exact ho.apart m y o _ h1 hob q2 b h2 (.inr ⟨k, j, hrow, g1⟩)
   ·refine ho.apart m y m' _ h1 hob q2 b h2 ?_
    rcases g1 with g1 | ⟨k', j', r1, _, r3⟩
    ·exact .inl g1
    ·exact .inr ⟨k', j', r1, r3⟩
   ·exact ho.apart m y m' y' h1 g1 hne b h2 g2

theorem sound_rowAppend (hty : ∀ t x, ty t = some x → TyOK P t x) (h : ORel cx κ F w U σ) (hf : ∀ j, j < 16 → ¬ U (nm + j)) {o : Oper} {ρ : Operand → Value} {e : Operand → AV} (he : ∀ x, RV κ F w (e x) (ρ x)) {x y : Operand} {t : TypeId}
  (ho : o.op = .call { callee := .builtin .append, args := #[x, y], argTypes := #[t, t] }) {el : TypeId} {E : TyE} {ob g k j : Nat} {l2 : List D} {rd : List Nat} (hel : elemOf ty t = some (el, E)) (hpos : 0 < E.size) (hzs : E.zero.cells.size = E.size)
  (hex : e x = .row ob g k j) (hsl : slOf σ E.size (e y) = some (l2, rd)) : Sound P cx κ F w U nm σ o ρ (rowAppend σ nm el E ob g k j l2 rd) := by
 have run : ∀ v w', (Builtin.append_ #[t, t] o.type #[ρ x, ρ y]).run P w = .ok v w' → (execOp ρ o).run P w = .ok (.value v) w' := by
  intro v w' hv
  unfold execOp
  simp only [ho, resolve, invoke, builtin, Sem.run_bind, Sem.run_pure, Result.andThen_ok, List.map_toArray, List.map_cons, List.map_nil, hv]
 obtain ⟨hu, tok⟩ := elemOf_some hty hel
 obtain ⟨_, i, i1, i2, i3, i4, _⟩ := tok
 have hx := he x
 rw [hex] at hx; unfold RV at hx
 obtain ⟨a2, c2, us2, hy2, hac, hul2, hre2, hcell2⟩ := slOf_some h hsl (he y)
 have ones2 : ∀ u ∈ us2, u.oneCell' = true := fun u hu => by rw [one_eq]; exact hre2.ones u hu
 unfold rowAppend
 split
 ·rename_i tv htv
  split
  ·rename_i hhole
   split
   ·rename_i hm
    intro hp
    obtain ⟨p1, p2, p3, p4⟩ := (show _ ∧ _ ∧ _ ∧ _ from hp)
    have hf1 : ¬ U (nm + 1) := hf 1 (by omega)
    have h1 := orel_steal h hf1 htv hhole p1 hm
    have hob := tabAt_some htv
    have hnbo := h.nb ob _ hob
    have hok1 := h1.ok (nm + 1) _ (upd_same _ _)
    have hκn : kapN κ (nm + 1) (kv ((κ g).r k j)) (nm + 1) = kv ((κ g).r k j) := by simp [kapN]
    obtain ⟨us, hown, hre, _⟩ := (show ArrOK F w el (rowOf tv.l k j).1 (kapN κ (nm + 1) (kv ((κ g).r k j)) (nm + 1)).v (rowOf tv.l k j).2 from hok1)
    rw [hκn] at hown
    rw [p2] at hown hre
    obtain ⟨v', w', g1, g2, g3, g4⟩ := run_append_at (P := P) (w := w) t o.type el i E.zero hu i1 i4 (by rw [hzs, i2]) (by rw [i2]; exact hpos) ((κ g).r k j) (rowOf tv.l k j).2.length us (by rw [i2]; exact hown)
     a2 l2.length c2 hac us2 (by rw [i2]; exact hul2) hcell2 ones2 (by unfold maxLen; omega) (by rw [i3]; omega)
    rw [i2] at g2
    have hlen : ((rowOf tv.l k j).2 ++ l2).length = (rowOf tv.l k j).2.length + l2.length := List.length_append
    rw [← hlen] at g2
    refine out_val (run _ _ (by rw [hx.1, hy2]; exact g1)) ?_
    have hsl' := Own.slice hown
    obtain ⟨a, c, e'⟩ := hsl'
    have hf0 : ¬ (fun m => U m ∨ m = nm + 1) nm := fun hc => by
     rcases hc with hc | hc
     ·exact hf 0 (by omega) hc
     ·omega
    have ha := aft_append h1 hf0 (v := (κ g).r k j) (oo := some (nm + 1)) (fun o' ho' => by simp at ho'; subst ho'; exact ⟨⟨_, upd_same _ _⟩, by rw [hκn]⟩) (by simp) g3 ⟨_, _, _, e'⟩ g4 g2 (RE.app hre hre2) hpos
    refine ⟨.own nm, _, (fun n => if n = nm then kv v' else kapN κ (nm + 1) (kv ((κ g).r k j)) n), F, ⟨rfl, rfl⟩, ⟨fun m hm' => ?_, fun _ hb => hb, ha.wx, fun m hm' => un_sub hm', ?_⟩, ?_, own_nb _ nm_un⟩
    ·have hne : m ≠ nm + 1 := fun e2 => hf1 (e2 ▸ hm')
     rw [ha.kap m (.inl hm')]
     simp [kapN, hne]
    ·have hor := ha.orel
     have hU : ∀ m, Un (fun m => U m ∨ m = nm + 1) nm m → Un U nm m := fun m hm' => by
      rcases hm' with (hm' | hm') | hm'
      ·exact .inl hm'
      ·exact .inr ⟨by omega, by omega⟩
      ·exact .inr hm'
     have hor2 := hor.un hU
     have hone : ob ≠ nm := fun e2 => hf 0 (by omega) (by rw [Nat.add_zero]; exact e2 ▸ hnbo.1)
     have hone1 : ob ≠ nm + 1 := fun e2 => hf1 (e2 ▸ hnbo.1)
     have hσn1 : σ (nm + 1) = none := by
      cases hs : σ (nm + 1) with
      | none => rfl
      | some z => exact absurd (h.nb _ z hs).1 hf1
     have heq : upd (rmv (upd (upd σ ob (some (.tab tv.e tv.es tv.mask tv.l g (some (k, j))))) (nm + 1) (some (.arr el (rowOf tv.l k j).1 (rowOf tv.l k j).2))) (some (nm + 1))) nm (some (.arr el E.size ((rowOf tv.l k j).2 ++ l2))) =
       app [(ob, some (.tab tv.e tv.es tv.mask tv.l g (some (k, j)))), (nm, some (.arr el E.size ((rowOf tv.l k j).2 ++ l2)))] σ := by
      funext m
      show upd _ nm _ m = upd (upd σ ob _) nm _ m
      by_cases hm1 : m = nm
      ·subst hm1; rw [upd_same, upd_same]
      ·rw [upd_ne hm1, upd_ne hm1]
       simp only [rmv]
       by_cases hm2 : m = nm + 1
       ·subst hm2
        rw [upd_same, upd_ne (Ne.symm hone1), hσn1]
       ·rw [upd_ne hm2, upd_ne hm2]
     rw [heq] at hor2
     exact hor2
    ·unfold RV
     obtain ⟨a, c, e'⟩ := Own.slice g2
     exact ⟨by simp, by rw [e']; rfl⟩
   ·intro hp; exact hp.elim
  ·intro hp; exact hp.elim
 ·intro hp; exact hp.elim


theorem sound_rowSlice (hty : ∀ t x, ty t = some x → TyOK P t x) (h : ORel cx κ F w U σ) {o : Oper} {ρ : Operand → Value} {e : Operand → AV} (he : ∀ x, RV κ F w (e x) (ρ x)) (hn : ∀ x, NB U (e x)) {t : TypeId} {x : Operand} {lo hi : Option Operand} (ho : o.op = .slice t x lo hi none)
  {el : TypeId} {E : TyE} {ob g k j : Nat} {l hh : Int} {hx : Operand} {kk : IntKind} (hel : elemOf ty t = some (el, E)) (hex : e x = .row ob g k j) (hhi : hi = some hx) (hih : isInt (e hx) = some (kk, hh)) (hlo : lowOf (lo.map e) = some l) :
  Sound P cx κ F w U nm σ o ρ (rowSlice σ E ob g k j l hh) := by
 obtain ⟨hu, tok⟩ := elemOf_some hty hel
 have hlow := low_some he hlo
 have hhr : hi.map ρ = some (.int kk hh) := by rw [hhi, Option.map_some, rv_int hih (he hx)]
 have hv := he x
 have hnv := hn x
 rw [hex] at hv hnv
 unfold RV at hv
 unfold rowSlice
 split
 ·rename_i t' ht
  split
  ·rename_i hc
   intro hp
   obtain ⟨p1, p2, p3, p4, p5⟩ := (show _ ∧ _ ∧ _ ∧ _ ∧ _ from hp)
   obtain ⟨e', _, ⟨us, hown, _⟩, _⟩ := row_of h ht p1 hc.2 hc.1
   obtain ⟨a, cap, q1, q2, q3⟩ : ∃ a cap, (κ g).r k j = .slice a (rowOf t'.l k j).2.length cap ∧ (rowOf t'.l k j).2.length ≤ cap ∧ ((rowOf t'.l k j).2.length = 0 ∨ ∃ b f, a = some ⟨b, f, none⟩) := by
    rcases hown.2 with ⟨g1, g2⟩ | ⟨g', off, cap, cur, g1, _, g3, _⟩
    ·exact ⟨none, 0, by rw [g1, g2], by omega, .inl g2⟩
    ·exact ⟨_, cap, g1, g3, .inr ⟨g', off, rfl⟩⟩
   have e1 : (hh - l).toNat = hh.toNat - l.toNat := by omega
   refine out_val (v := .slice (if cap = l.toNat then a else a.map (·.add (l.toNat * E.size))) (hh.toNat - l.toNat) (cap - l.toNat)) (w' := w) (exec_slice ho hu (by simp) ?_) (sr_same h ?_ ?_)
   ·rw [hv.1, q1]
    simp only [Instr.slice, Sem.run_bind, run_underlying hu, Result.andThen_ok, run_bounds true (rowOf t'.l k j).2.length cap hlow (.inr ⟨kk, hhr, by omega⟩) p3 p4, run_sizeOf' tok, Sem.run_pure]
   ·unfold RV
    refine ⟨a, _, cap, q1, q2, by omega, ?_, by rw [e1]⟩
    rcases q3 with q3 | q3
    ·left; omega
    ·exact .inr q3
   ·unfold NB at hnv ⊢; exact hnv
  ·intro hp; exact hp.elim
 ·intro hp; exact hp.elim
end
end Go.Ab
