/- My own layer: a row is taken out of its table: it is an array of one's own, the table has a hole. -/
import Derived.Test.YtjahononbnbjnaaAbEx3
namespace Go.Ab
set_option linter.unusedVariables false
set_option linter.unusedSimpArgs false

def SLe (nx o g k j : Nat) (x y : AV) : Prop := y = x ∨ (x = .row o g k j ∧ y = .own nx)

section
variable {cx : Cx}

theorem sle_rv {κ : Kap} {F : Nat → Prop} {w : World} {nx o g k j : Nat} {x y : AV} {v : Value} (h : SLe nx o g k j x y) (hn : NB (· < nx) x) (hv : RV κ F w x v) : RV (kapN κ nx (kv ((κ g).r k j))) F w y v ∧ NB (· < nx + 16) y := by
 have hk : ∀ o, o < nx → kapN κ nx (kv ((κ g).r k j)) o = κ o := fun o ho => by
  have : o ≠ nx := by omega
  simp [kapN, this]
 rcases h with rfl | ⟨rfl, rfl⟩
 ·exact ⟨RV.mono (U := (· < nx)) hk (fun _ h => h) (fun _ _ => rfl) hn hv, NB.mono (fun o ho => by show o < nx + 16; have : o < nx := ho; omega) hn⟩
 ·unfold RV at hv
  refine ⟨?_, by unfold NB; show nx < nx + 16; omega⟩
  unfold RV
  simp only [kapN, if_true]
  exact hv

theorem Wk_steal {env env' : List AV} {σ σ' : Objs} {nx o g k j : Nat} {e' : TypeId} {es' : Nat} {rows : List D} {t : TabV} (ht : tabAt σ o g = some t) (hh : t.hole = none) (hk : k < t.l.length) (hm : maskAt t.mask j = some e') (hr : rowOf t.l k j = (es', rows))
  (hl : env'.length = env.length) (henv : ∀ s, SLe nx o g k j (env.getD s .und) (env'.getD s .und))
  (hσ : ∀ n y, σ' n = some y → (n = nx ∧ y = .arr e' es' rows) ∨ (n ≠ nx ∧ n = o ∧ y = .tab t.e t.es t.mask t.l g (some (k, j))) ∨
   (n ≠ nx ∧ n ≠ o ∧ (σ n = some y ∨ ∃ T l l', σ n = some (.box T l) ∧ y = .box T l' ∧ l'.length = l.length ∧ ∀ i, SLe nx o g k j (l.getD i .und) (l'.getD i .und)))) :
  Wk cx ⟨env, σ, nx⟩ ⟨env', σ', nx + 16⟩ := by
 intro κ F a w hrel
 obtain ⟨he, ho⟩ := hrel
 have ho : ORel cx κ F w (· < nx) σ := ho
 have hob := tabAt_some ht
 rw [hh] at hob
 have hmS : (maskAt t.mask j).isSome = true := by rw [hm]; rfl
 have hnbo := ho.nb o _ hob
 have hon : o < nx := hnbo.1
 have hgn : g < nx := hnbo.2
 obtain ⟨e2, hm2, harr, hcell, hrow⟩ := row_of ho ht hk hmS (by rw [hh]; rfl)
 rw [hm] at hm2; cases hm2
 rw [hr] at harr
 rw [hh] at hrow
 let κ' : Kap := kapN κ nx (kv ((κ g).r k j))
 have hκ : ∀ n, n < nx → κ' n = κ n := fun n hn => by
  have : n ≠ nx := by omega
  simp [κ', kapN, this]
 have hκn : κ' nx = kv ((κ g).r k j) := by simp [κ', kapN]
 have htab : TabOK F w t.e t.es t.mask t.l (κ o).v (κ g).r none := ho.ok o _ hob
 have hirow : ∀ k' j', isRow t.mask t.l.length (some (k, j)) k' j' → isRow t.mask t.l.length none k' j' ∧ (k', j') ≠ (k, j) := fun k' j' h => ⟨⟨h.1, h.2.1, by simp⟩, fun e => h.2.2 (by rw [e])⟩
 -- the blocks
 have hblk : ∀ n y, σ' n = some y → ∀ b, Blk κ' n y b → (n = nx ∧ blk ((κ g).r k j) = some b) ∨ (n = o ∧ n ≠ nx ∧ (blk (κ o).v = some b ∨ ∃ k' j', isRow t.mask t.l.length none k' j' ∧ (k', j') ≠ (k, j) ∧ blk ((κ g).r k' j') = some b)) ∨ (n ≠ nx ∧ n ≠ o ∧ ∃ x, σ n = some x ∧ Blk κ n x b) := by
  intro n y hy b hb
  rcases hσ n y hy with ⟨rfl, rfl⟩ | ⟨h1, rfl, rfl⟩ | ⟨h1, h2, h3⟩
  ·rcases hb with hb | hb
   ·rw [hκn] at hb; exact .inl ⟨rfl, hb⟩
   ·exact hb.elim
  ·refine .inr (.inl ⟨rfl, h1, ?_⟩)
   rcases hb with hb | ⟨k', j', hr', hb⟩
   ·rw [hκ n hon] at hb; exact .inl hb
   ·rw [hκ g hgn] at hb
    obtain ⟨q1, q2⟩ := hirow k' j' hr'
    exact .inr ⟨k', j', q1, q2, hb⟩
  ·refine .inr (.inr ⟨h1, h2, ?_⟩)
   rcases h3 with h3 | ⟨T, l, l', h3, rfl, _, _⟩
   ·have hu := ho.nb n y h3
    exact ⟨y, h3, hb.kap (U := (· < nx)) hκ hu.1 hu.2⟩
   ·refine ⟨_, h3, ?_⟩
    have hu := ho.nb n _ h3
    rcases hb with hb | hb
    ·rw [hκ n hu.1] at hb; exact .inl hb
    ·exact hb.elim
 have hblkS : ∀ n y, σ' n = some y → ∀ b, Blk κ' n y b → ∃ n' x, σ n' = some x ∧ Blk κ n' x b := by
  intro n y hy b hb
  rcases hblk n y hy b hb with ⟨_, h1⟩ | ⟨_, _, h1⟩ | ⟨_, _, x, h1, h2⟩
  ·exact ⟨o, _, hob, .inr ⟨k, j, hrow, h1⟩⟩
  ·refine ⟨o, _, hob, ?_⟩
   rcases h1 with h1 | ⟨k', j', q1, _, q2⟩
   ·exact .inl h1
   ·exact .inr ⟨k', j', q1, q2⟩
  ·exact ⟨n, x, h1, h2⟩
 refine ⟨κ', F, fun _ hb => hb, ⟨⟨by rw [he.size]; exact hl.symm, he.dfr, fun s => (sle_rv (henv s) (he.nb s) (he.rv s)).1, fun s => (sle_rv (henv s) (he.nb s) (he.rv s)).2⟩, ⟨fun n y hy => ?_, fun n y hy => ?_, fun n y hy b hb => ?_, fun n y n' y' hy hy' hne b hb hb' => ?_, ho.fG, ho.kB, ho.gB, ho.bs, ho.inv, fun j' hj' => ?_⟩⟩⟩
 ·rcases hσ n y hy with ⟨rfl, rfl⟩ | ⟨h1, rfl, rfl⟩ | ⟨h1, h2, h3⟩
  ·show ArrOK F w e' es' (κ' n).v rows
   rw [hκn]; exact harr
  ·show TabOK F w t.e t.es t.mask t.l (κ' n).v (κ' g).r (some (k, j))
   rw [hκ n hon, hκ g hgn]
   obtain ⟨us, hown, hul, hc⟩ := htab.mem
   refine ⟨htab.pos, htab.mlen, htab.cells, ⟨us, hown, hul, fun k' d j' c hk' hd => ?_⟩, fun k1 j1 k2 j2 q1 q2 hne => htab.apart k1 j1 k2 j2 (hirow _ _ q1).1 (hirow _ _ q2).1 hne, fun k1 j1 q1 => htab.outer k1 j1 (hirow _ _ q1).1⟩
   obtain ⟨x, x1, x2, x3⟩ := hc k' d j' c hk' hd
   refine ⟨x, x1, x2, ?_⟩
   cases hm' : maskAt t.mask j' with
   | none => rw [hm'] at x3; exact x3
   | some e2 =>
    rw [hm'] at x3
    simp only [] at x3 ⊢
    rcases x3 with ⟨x4, x3 | x3⟩
    ·cases x3
    ·exact ⟨x4, .inr x3⟩
  ·rcases h3 with h3 | ⟨T, l, l', h3, rfl, hll, hls⟩
   ·have hu := ho.nb n y h3
    exact ObjOK.mono (U := (· < nx)) hκ (fun _ hb => hb) (fun _ _ => rfl) hu.1 hu.2 (fun _ _ => rfl) (ho.ok n y h3)
   ·obtain ⟨b, arr, k1, k2, k3⟩ := ho.ok n _ h3
    have hu := ho.nb n _ h3
    have hnl : NBs (· < nx) l := hu.2
    have hlen := k3.length
    refine ⟨b, arr, by rw [hκ n hu.1]; exact k1, k2, RVc_of_cells (by rw [hlen, hll]) fun i c hi => ?_⟩
    have hil := (List.getElem?_eq_some_iff.1 hi).1
    have hil' : i < l.length := by omega
    obtain ⟨u, u1, u2, u3⟩ := RVc.at i _ k3 (List.getElem?_eq_getElem hil')
    have hs := hls i
    rw [List.getD_eq_getElem?_getD, List.getD_eq_getElem?_getD, hi, List.getElem?_eq_getElem hil'] at hs
    exact ⟨u, u1, u2, (sle_rv hs (NBs.at i _ hnl (List.getElem?_eq_getElem hil')) u3).1⟩
 ·rcases hσ n y hy with ⟨rfl, rfl⟩ | ⟨h1, rfl, rfl⟩ | ⟨h1, h2, h3⟩
  ·exact ⟨by show n < n + 16; omega, trivial⟩
  ·exact ⟨by show n < nx + 16; omega, by show g < nx + 16; omega⟩
  ·rcases h3 with h3 | ⟨T, l, l', h3, rfl, hll, hls⟩
   ·have hu := ho.nb n y h3
    refine ⟨by show n < nx + 16; have : n < nx := hu.1; omega, NBo.mono (fun m hm => by show m < nx + 16; have : m < nx := hm; omega) hu.2⟩
   ·have hu := ho.nb n _ h3
    refine ⟨by show n < nx + 16; have : n < nx := hu.1; omega, NBs_of fun c hc => ?_⟩
    obtain ⟨i, hi⟩ := List.getElem?_of_mem hc
    have hil := (List.getElem?_eq_some_iff.1 hi).1
    have hil' : i < l.length := by omega
    have hs := hls i
    rw [List.getD_eq_getElem?_getD, List.getD_eq_getElem?_getD, hi, List.getElem?_eq_getElem hil'] at hs
    have hnl : NBs (· < nx) l := hu.2
    have hx := NBs.at i _ hnl (List.getElem?_eq_getElem hil')
    simp only [Option.getD_some] at hs
    rcases hs with hs | ⟨_, hs⟩
    ·rw [hs]; exact NB.mono (fun m hm => by show m < nx + 16; have : m < nx := hm; omega) hx
    ·rw [hs]; unfold NB; show nx < nx + 16; omega
 ·obtain ⟨n', x, h1, h2⟩ := hblkS n y hy b hb
  exact ho.free n' x h1 b h2
 ·rcases hblk n y hy b hb with ⟨rfl, h1⟩ | ⟨rfl, _, h1⟩ | ⟨q1, q2, x, h1, h2⟩
  ·rcases hblk n' y' hy' b hb' with ⟨rfl, _⟩ | ⟨rfl, _, g1⟩ | ⟨q1', q2', x', g1, g2⟩
   ·exact hne rfl
   ·rcases g1 with g1 | ⟨k', j', r1, r2, r3⟩
    ·exact htab.outer k j hrow b h1 g1
    ·exact htab.apart k' j' k j r1 hrow r2 b r3 h1
   ·exact ho.apart o _ n' x' hob g1 (Ne.symm q2') b (.inr ⟨k, j, hrow, h1⟩) g2
  ·have hB : Blk κ n (.tab t.e t.es t.mask t.l g none) b := by
    rcases h1 with h1 | ⟨k', j', r1, _, r3⟩
    ·exact .inl h1
    ·exact .inr ⟨k', j', r1, r3⟩
   rcases hblk n' y' hy' b hb' with ⟨rfl, g1⟩ | ⟨rfl, _, _⟩ | ⟨q1', q2', x', g1, g2⟩
   ·rcases h1 with h1 | ⟨k', j', r1, r2, r3⟩
    ·exact htab.outer k j hrow b g1 h1
    ·exact htab.apart k' j' k j r1 hrow r2 b r3 g1
   ·exact hne rfl
   ·exact ho.apart n _ n' x' hob g1 (Ne.symm q2') b hB g2
  ·rcases hblk n' y' hy' b hb' with ⟨rfl, g1⟩ | ⟨rfl, _, g1⟩ | ⟨q1', q2', x', g1, g2⟩
   ·exact ho.apart n x o _ h1 hob q2 b h2 (.inr ⟨k, j, hrow, g1⟩)
   ·refine ho.apart n x n' _ h1 hob q2 b h2 ?_
    rcases g1 with g1 | ⟨k', j', r1, _, r3⟩
    ·exact .inl g1
    ·exact .inr ⟨k', j', r1, r3⟩
   ·exact ho.apart n x n' x' h1 g1 hne b h2 g2
 ·have hlt := ho.lt j' hj'
  exact ⟨by show j' < nx + 16; have : j' < nx := hlt.1; omega, by rw [hκ j' hlt.1]; exact hlt.2⟩
end

def locAV (n : Nat) (x : X) : Loc → AV
 | .s t => bif Nat.blt t n then lkA x.A t else .und
 | .c b i => match obo x.L b with
  | some (.box _ l) => l.getD i .und
  | _ => .und
def stealX (n : Nat) (lc : Loc) (dx : D) (x : X) : Option (List Prop × X) :=
 match locAV n x lc with
 | .row o g k j =>
  match tabAt (obo x.L) o g with
  | some tv =>
   match tv.hole, maskAt tv.mask j with
   | none, some e' =>
    let M := (x.nx, some (.arr e' (rowD dx j).1 (rowD dx j).2)) :: (o, some (.tab tv.e tv.es tv.mask tv.l g (some (k, j)))) :: x.L
    match lc with
    | .s t => some ([tv.l[k]? = some dx], ⟨(t, .own x.nx) :: x.A, M, x.nx + 16⟩)
    | .c b i => match obo x.L b with
     | some (.box T l) => bif Nat.blt b x.nx then some ([tv.l[k]? = some dx], ⟨x.A, (b, some (.box T (l.set i (.own x.nx)))) :: M, x.nx + 16⟩) else none
     | _ => none
   | _, _ => none
  | none => none
 | _ => none

theorem obo_cons (L : List (Nat × Option Obj')) (o : Nat) (x : Option Obj') (n : Nat) : obo ((o, x) :: L) n = if n = o then x else obo L n := by
 show (bif Nat.beq n o then x else obo L n) = _
 by_cases h : n = o
 ·subst h; simp
 ·have : Nat.beq n o = false := by
   cases hb : Nat.beq n o with
   | true => exact absurd (Nat.eq_of_beq_eq_true hb) h
   | false => rfl
  rw [this, if_neg h]; rfl

theorem Wk_St {cx : Cx} {n : Nat} (lc : Loc) (dx : D) {x x' : X} {ps : List Prop} (hs : stealX n lc dx x = some (ps, x')) (hp : AllP ps) : Wk cx (x.st n) (x'.st n) := by
 unfold stealX at hs
 split at hs
 ·rename_i o g k j hrow
  split at hs
  ·rename_i tv htv
   split at hs
   ·rename_i e' hhole hmask
    have fin : tv.l[k]? = some dx → k < tv.l.length ∧ rowOf tv.l k j = ((rowD dx j).1, (rowD dx j).2) := fun h => by
     refine ⟨(List.getElem?_eq_some_iff.1 h).1, ?_⟩
     unfold rowOf
     rw [List.getD_eq_getElem?_getD, h]; rfl
    split at hs
    ·rename_i t
     cases hs
     cases hp with
     | cons h1 _ =>
      obtain ⟨f1, f2⟩ := fin h1
      refine Wk_steal htv hhole f1 hmask f2 (by simp [envX]) (fun s => ?_) (fun m y hy => ?_)
      ·rw [envX_getD, envX_getD]
       cases hb : Nat.blt s n with
       | false => exact .inl rfl
       | true =>
        simp only [cond_true]
        by_cases hst : s = t
        ·subst hst
         right
         simp only [locAV, hb, cond_true] at hrow
         exact ⟨hrow, by show (bif Nat.beq s s then _ else _) = _; simp⟩
        ·left
         rw [lkA_cons, if_neg hst]
      ·rw [obo_cons, obo_cons] at hy
       by_cases h1 : m = x.nx
       ·rw [if_pos h1] at hy; exact .inl ⟨h1, (Option.some.inj hy).symm⟩
       ·rw [if_neg h1] at hy
        by_cases h2 : m = o
        ·rw [if_pos h2] at hy; exact .inr (.inl ⟨h1, h2, (Option.some.inj hy).symm⟩)
        ·rw [if_neg h2] at hy; exact .inr (.inr ⟨h1, h2, .inl hy⟩)
    ·rename_i b i
     split at hs
     ·rename_i T l hbox
      cases hbl : Nat.blt b x.nx with
      | false => rw [hbl] at hs; cases hs
      | true =>
       rw [hbl] at hs
       cases hs
       cases hp with
       | cons h1 _ =>
        obtain ⟨f1, f2⟩ := fin h1
        have hbn : b < x.nx := by simpa [Nat.blt_eq] using hbl
        have hbo : b ≠ o := fun e => by
         subst e
         have := tabAt_some htv
         rw [hbox] at this; cases this
        refine Wk_steal htv hhole f1 hmask f2 rfl (fun s => .inl rfl) (fun m y hy => ?_)
        rw [obo_cons, obo_cons, obo_cons] at hy
        by_cases h0 : m = b
        ·rw [if_pos h0] at hy
         refine .inr (.inr ⟨by omega, by rw [h0]; exact hbo, .inr ⟨T, l, _, by rw [h0]; exact hbox, (Option.some.inj hy).symm, by simp, fun q => ?_⟩⟩)
         simp only [locAV, hbox] at hrow
         by_cases hq : q = i
         ·subst hq
          by_cases hql : q < l.length
          ·right
           refine ⟨hrow, ?_⟩
           rw [List.getD_eq_getElem?_getD, List.getElem?_set_self hql]; rfl
          ·left
           rw [List.set_eq_of_length_le (Nat.le_of_not_lt hql)]
         ·left
          rw [List.getD_eq_getElem?_getD, List.getElem?_set_ne (Ne.symm hq), ← List.getD_eq_getElem?_getD]
        ·rw [if_neg h0] at hy
         by_cases h1 : m = x.nx
         ·rw [if_pos h1] at hy; exact .inl ⟨h1, (Option.some.inj hy).symm⟩
         ·rw [if_neg h1] at hy
          by_cases h2 : m = o
          ·rw [if_pos h2] at hy; exact .inr (.inl ⟨h1, h2, (Option.some.inj hy).symm⟩)
          ·rw [if_neg h2] at hy; exact .inr (.inr ⟨h1, h2, .inl hy⟩)
     ·cases hs
   ·cases hs
  ·cases hs
 ·cases hs
end Go.Ab
