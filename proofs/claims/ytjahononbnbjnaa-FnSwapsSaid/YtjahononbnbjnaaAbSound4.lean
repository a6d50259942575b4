/- My own layer, seventh part: stores, appends, literals. -/
import Derived.Test.YtjahononbnbjnaaAbSound3
namespace Go.Ab
set_option linter.unusedVariables false
set_option linter.unusedSimpArgs false
section
variable {P : Program} {cx : Cx} {κ : Kap} {F : Nat → Prop} {w : World} {U : Nat → Prop} {nm : Nat} {σ : Objs} {ty : TypeId → Option TyE} {Γ : Nat → Option FnSpec}

theorem spl_length {α : Type} {l xs : List α} {i : Nat} (h : i + xs.length ≤ l.length) : (spl l i xs).length = l.length := by
 simp only [spl, List.length_append, List.length_take, List.length_drop]; omega

theorem spl_get {α : Type} {l xs : List α} {i : Nat} (h : i + xs.length ≤ l.length) (n : Nat) : (spl l i xs)[n]? = if n < i then l[n]? else if n < i + xs.length then xs[n - i]? else l[n]? := by
 unfold spl
 have e : (l.take i).length = i := by rw [List.length_take]; omega
 by_cases h1 : n < i
 ·rw [if_pos h1, List.append_assoc, List.getElem?_append_left (by omega), List.getElem?_take_of_lt h1]
 ·rw [if_neg h1]
  by_cases h2 : n < i + xs.length
  ·rw [if_pos h2, List.append_assoc, List.getElem?_append_right (by omega), e, List.getElem?_append_left (by omega)]
  ·rw [if_neg h2, List.getElem?_append_right (by rw [List.length_append, e]; omega), List.getElem?_drop]
   congr 1
   rw [List.length_append, e]; omega

theorem spl_take {α : Type} {l xs : List α} {i n : Nat} (h : i + xs.length ≤ n) (hn : n ≤ l.length) : (spl l i xs).take n = spl (l.take n) i xs := by
 apply List.ext_getElem?
 intro m
 rw [spl_get (by rw [List.length_take]; omega)]
 by_cases hm : m < n
 ·rw [List.getElem?_take_of_lt hm, spl_get (by omega), List.getElem?_take_of_lt hm]
 ·rw [List.getElem?_eq_none (by rw [List.length_take]; omega), if_neg (by omega), if_neg (by omega), List.getElem?_eq_none (by rw [List.length_take]; omega)]

theorem spl_drop {α : Type} {l xs : List α} {f i : Nat} (h : f + i + xs.length ≤ l.length) : (spl l (f + i) xs).drop f = spl (l.drop f) i xs := by
 apply List.ext_getElem?
 intro m
 rw [spl_get (by rw [List.length_drop]; omega), List.getElem?_drop, spl_get (by omega), List.getElem?_drop]
 by_cases h1 : m < i
 ·rw [if_pos (show f + m < f + i by omega), if_pos h1]
 ·rw [if_neg (show ¬ f + m < f + i by omega), if_neg h1]
  by_cases h2 : m < i + xs.length
  ·rw [if_pos (show f + m < f + i + xs.length by omega), if_pos h2, show f + m - (f + i) = m - i by omega]
  ·rw [if_neg (show ¬ f + m < f + i + xs.length by omega), if_neg h2]
theorem spl_mid {α : Type} {l xs : List α} {a es j : Nat} (h : j + xs.length ≤ es) (hn : a + es ≤ l.length) :
  l.take a ++ spl ((l.drop a).take es) j xs ++ l.drop (a + es) = spl l (a + j) xs := by
 have hl : (spl ((l.drop a).take es) j xs).length = es := by rw [spl_length (by rw [List.length_take, List.length_drop]; omega), List.length_take, List.length_drop]; omega
 have e : l.take a ++ spl ((l.drop a).take es) j xs ++ l.drop (a + es) = spl l a (spl ((l.drop a).take es) j xs) := by unfold spl; rw [← spl, hl]
 rw [e]
 apply List.ext_getElem?
 intro n
 rw [spl_get (l := l) (i := a) (by rw [hl]; exact hn), spl_get (l := l) (i := a + j) (xs := xs) (by omega), hl]
 by_cases h1 : n < a
 ·rw [if_pos h1, if_pos (by omega)]
 ·rw [if_neg h1]
  by_cases h2 : n < a + es
  ·rw [if_pos h2, spl_get (l := (l.drop a).take es) (by rw [List.length_take, List.length_drop]; omega)]
   by_cases h3 : n - a < j
   ·rw [if_pos h3, if_pos (by omega), List.getElem?_take_of_lt (by omega), List.getElem?_drop]
    congr 1; omega
   ·rw [if_neg h3]
    by_cases h4 : n - a < j + xs.length
    ·rw [if_pos h4, if_neg (by omega), if_pos (by omega)]
     congr 1; omega
    ·rw [if_neg h4, if_neg (by omega), if_neg (by omega), List.getElem?_take_of_lt (by omega), List.getElem?_drop]
     congr 1; omega
  ·rw [if_neg h2, if_neg (by omega), if_neg (by omega)]

theorem RVc.spl {l xs : List AV} {us vs : List Value} {i : Nat} (h : RVc κ F w l us) (h' : RVc κ F w xs vs) : RVc κ F w (Ab.spl l i xs) (Ab.spl us i vs) := by
 unfold Ab.spl
 rw [h'.length]
 exact ((h.take i).app h').app (h.drop _)
theorem RC.spl {l xs : List D} {us vs : List Value} {i : Nat} (h : RC F w l us) (h' : RC F w xs vs) : RC F w (Ab.spl l i xs) (Ab.spl us i vs) := by
 unfold Ab.spl
 rw [h'.length]
 exact ((h.take i).app h').app (h.drop _)
theorem NBs.spl {l xs : List AV} {i : Nat} (h : NBs U l) (h' : NBs U xs) : NBs U (Ab.spl l i xs) := by
 unfold Ab.spl
 exact ((h.take i).app h').app (h.drop _)

theorem toDs_some : ∀ {l : List AV} {ds : List D}, toDs l = some ds → l = ds.map .dat
 | [], ds, h => by simp [toDs] at h; subst h; rfl
 | x :: l, ds, h => by
  unfold toDs at h
  split at h
  ·rename_i d ds' hd hds
   simp only [Option.some.injEq] at h
   subst h
   have := toDs_some hds
   cases x <;> simp [AV.toD] at hd
   subst hd
   simp [this]
  ·cases h

theorem RC_of_RVc : ∀ {l : List D} {us : List Value}, RVc κ F w (l.map .dat) us → RC F w l us
 | [], us, h => by simp only [List.map_nil] at h; unfold RVc at h; unfold RC; exact h
 | d :: ds, us, h => by
  simp only [List.map_cons] at h
  unfold RVc at h
  obtain ⟨u, us', h1, h2, h3, h4⟩ := h
  unfold RV at h3
  unfold RC
  exact ⟨u, us', h1, h2, h3, RC_of_RVc h4⟩

theorem rc_one {d : D} {v : Value} (h1 : one v = true) (h : RD F w d v) : RC F w d.cells [v] := by
 have hne : ∀ l, d ≠ .agg l := by
  rintro l rfl
  unfold RD at h
  obtain ⟨cs, rfl, _⟩ := h
  simp [one] at h1
 have e : d.cells = [d] := by cases d <;> first | rfl | exact absurd rfl (hne _)
 rw [e]
 unfold RC
 exact ⟨v, [], rfl, h1, h, by unfold RC; rfl⟩

theorem exec_store {o : Oper} {ρ : Operand → Value} {t : TypeId} {T : TyE} (tok : TyOK P t T) {a x : Operand} (ho : o.op = .store t a x) {b i : Nat} (ha : ρ a = .pointer (some ⟨b, i, none⟩))
  {cur : Array Value} {elem : TypeId} {fz : Nat × Nat} (hb : w.heap[b]? = some (.cells cur elem fz)) (hz : ∀ j, j < cur.size → (decide (fz.1 ≤ j) && decide (j < fz.2)) = false) (hsz : (ρ x).cells.size = T.size) (hfit : i + (ρ x).cells.size ≤ cur.size) (h1 : ∀ u ∈ (ρ x).cells.toList, one u = true) :
  (execOp ρ o).run P w = .ok .skip (w.setRow b (spl cur.toList i (ρ x).cells.toList).toArray) := by
 unfold execOp
 simp only [ho]
 refine exec_u _ ?_
 have hst := run_storeCells_any P b i elem fz (ρ x).cells.toList 0 cur w hb hz (by simpa using hfit) (fun v hv => by rw [one_eq]; exact h1 v hv)
 simp only [Nat.add_zero] at hst
 simp only [Instr.storeAt, Instr.sureAddr, ha, Sem.run_bind, Sem.run_pure, Result.andThen_ok, storeVar, run_sizeOf' tok, hsz, ne_eq, not_true_eq_false, if_false, hst, spl]

theorem sr_upd {p : Prop} {rd : List Nat} {o : Nat} {x : Obj'} {w' : World} (h : Aft cx κ F w U κ F w' (Un U nm) (upd σ o (some x))) :
  SR cx κ F w U nm σ (.det p rd .und [(o, some x)]) undef w' :=
 ⟨.und, _, κ, F, ⟨rfl, rfl⟩, h, by unfold RV; rfl, by unfold NB; trivial⟩

theorem sound_store (hty : ∀ t x, ty t = some x → TyOK P t x) (h : ORel cx κ F w U σ) {o : Oper} {ρ : Operand → Value} {e : Operand → AV} (he : ∀ x, RV κ F w (e x) (ρ x)) (hn : ∀ x, NB U (e x)) {t : TypeId} {a x : Operand} (ho : o.op = .store t a x)
  (htab : ∀ T cs ob es k j, ty t = some T → (e x).cells = some cs → cs.length = T.size → e a = .eref ob es k j → Sound P cx κ F w U nm σ o ρ (tabStore ty σ nm ob es k j cs))
  (hrow : ∀ T cs ds ob g k j es i c, ty t = some T → (e x).cells = some cs → cs.length = T.size → toDs cs = some ds → e a = .rref ob g k j es i c → Sound P cx κ F w U nm σ o ρ (rowStore ty σ ob g k j es i c ds)) :
  Sound P cx κ F w U nm σ o ρ (spec ty Γ σ e nm o) := by
 have hs : spec ty Γ σ e nm o = storeSpec ty σ nm t (e a) (e x) := by unfold spec; simp only [ho]
 rw [hs]
 unfold storeSpec
 split
 ·rename_i T cs hT hcs
  have tok := hty t T hT
  obtain ⟨hc, hcn⟩ := cells_of hcs (he x) (hn x)
  have hsz : (ρ x).cells.size = cs.length := by rw [← Array.length_toList]; exact hc.length
  split
  ·rename_i hlen
   have ha := he a
   split
   ·rename_i ob i hea
    rw [hea] at ha; unfold RV at ha
    obtain ⟨b, hk, hρ⟩ := ha
    split
    ·rename_i l hob
     split
     ·rename_i hfit
      intro _
      obtain ⟨b', arr, k1, k2, k3⟩ := h.ok ob _ hob
      rw [hk] at k1; simp at k1; subst k1
      have hal : arr.size = l.length := by rw [← Array.length_toList]; exact k3.length
      have hbF : ∀ b', F b' → (w.setRow b (spl arr.toList i (ρ x).cells.toList).toArray).heap[b']? = w.heap[b']? := fun b' hb' =>
       setRow_other w b b' _ fun e' => (h.free ob _ hob b (.inl (by rw [hk]; rfl))).1 (e' ▸ hb')
      have hn0 := (h.nb ob _ hob).2
      refine out_skip (exec_store tok ho hρ k2 (by simp) (by rw [hsz, hlen]) (by rw [hsz]; omega) hc.ones) (sr_upd (aft_write h hob rfl rfl rfl (by simp) (fun b' _ hne => setRow_other w b b' _ fun e' => hne (.inl (by rw [hk, e']; rfl))) (fun _ h => h) ?_ (NBs.spl hn0 hcn)))
      exact ⟨b, _, hk, setRow_heap w b arr _ _ _ k2, by
       exact RVc.mono (fun _ _ => rfl) (fun _ hb => hb) hbF (NBs.spl hn0 hcn) (k3.spl hc)⟩
     ·intro hp; exact hp.elim
    ·intro hp; exact hp.elim
   ·rename_i ob es k j hea
    rw [hea] at ha; unfold RV at ha
    obtain ⟨b, f, n, cap, hk, hρ⟩ := ha
    split
    ·rename_i e' es' l ds hob hds
     have hcd := toDs_some hds
     subst hcd
     have hcr := RC_of_RVc hc
     split
     ·rename_i hes
      subst hes
      split
      ·rename_i E hE
       split
       ·rename_i hEs
        obtain ⟨us, hown, hre, hpos⟩ := h.ok ob _ hob
        have hul := hre.length
        -- the block
        have hbl : ∃ cur capp eb fz, w.heap[b]? = some (.cells cur eb fz) ∧ FzOK e' cur.size fz ∧ l.length ≤ capp ∧ capp ≤ maxLen ∧ f + capp * es ≤ cur.size ∧ (cur.toList.drop f).take (l.length * es) = us ∧ (κ ob).v = .slice (some ⟨b, f, none⟩) l.length capp := by
         rcases hown.2 with ⟨g1, _⟩ | ⟨g, off, capp, cur, g1, ⟨eb, fz, g2, gz⟩, g3, g4, g5, g6⟩
         ·rw [hk] at g1; simp at g1
         ·have g1' := g1
          rw [hk] at g1; simp at g1
          obtain ⟨⟨rfl, rfl⟩, _, rfl⟩ := g1
          exact ⟨cur, _, eb, fz, g2, gz, g3, g4, g5, g6, g1'⟩
        obtain ⟨cur, capp, eb, fz, c1, cz, c2, c3, c4, c5, c6⟩ := hbl
        have key : ∀ (d : D), k < l.length → j + ds.length ≤ es → RC F w d.cells (spl ((us.drop (k * es)).take es) j (ρ x).cells.toList) →
          ∀ {p : Prop} {rd : List Nat}, Out P o ρ w (SR cx κ F w U nm σ (.det p rd .und [(ob, some (.arr e' es (l.set k d)))])) := by
         intro d hk1 hj hd p rd
         have hm1 : (k + 1) * es ≤ l.length * es := Nat.mul_le_mul_right _ hk1
         have hm2 : l.length * es ≤ capp * es := Nat.mul_le_mul_right _ c2
         have hm3 : (k + 1) * es = k * es + es := by rw [Nat.add_mul, Nat.one_mul]
         have hvl : (ρ x).cells.toList.length = ds.length := by rw [Array.length_toList, hsz, List.length_map]
         have hcl : f + capp * es ≤ cur.toList.length := by rw [Array.length_toList]; exact c4
         have hvs : (ρ x).cells.size = ds.length := by rw [hsz, List.length_map]
         have hbF : ∀ b', F b' → (w.setRow b (spl cur.toList (f + (k * es + j)) (ρ x).cells.toList).toArray).heap[b']? = w.heap[b']? := fun b' hb' =>
          setRow_other w b b' _ fun e' => (h.free ob _ hob b (.inl (by rw [hk]; rfl))).1 (e' ▸ hb')
         refine out_skip (exec_store tok ho hρ c1 (fun _ hj => cz.not hj) (by rw [hsz, hlen]) (by omega) hc.ones) (sr_upd (aft_write h hob rfl rfl rfl (by simp) (fun b' _ hne => setRow_other w b b' _ fun e' => hne (.inl (by rw [hk, e']; rfl))) (fun _ h => h) ?_ trivial))
         have hset := RE.set k d _ hre hk1 hd (by rw [spl_length (by rw [List.length_take, List.length_drop, hvl]; omega), List.length_take, List.length_drop]; omega)
         rw [spl_mid (by rw [hvl]; exact hj) (by omega)] at hset
         refine ⟨_, ⟨?_, .inr ⟨b, f, capp, _, ?_, ⟨_, _, setRow_heap w b cur _ eb _ c1, by rwa [show (List.toArray (spl cur.toList (f + (k * es + j)) (ρ x).cells.toList)).size = cur.size by rw [List.size_toArray, spl_length (by rw [hvl]; omega)]; rfl]⟩, ?_, c3, ?_, ?_⟩⟩, RE.mono (fun _ hb => hb) hbF hset, hpos⟩
         ·rw [hset.length]
         ·rw [List.length_set]; exact c6
         ·rw [List.length_set]; exact c2
         ·simp only [List.size_toArray]
          rw [spl_length (by rw [hvl]; omega)]; exact hcl
         ·rw [List.toList_toArray, List.length_set, spl_drop (by rw [hvl]; omega), spl_take (by rw [hvl]; omega) (by rw [List.length_drop]; omega), c5]
        split
        ·rename_i hg
         intro hp
         obtain ⟨p1, p2⟩ := (show _ ∧ _ from hp)
         obtain ⟨r1, r2⟩ := RE.at k _ hre (getD_of_lt (d := .sc undef) p1)
         exact key (.agg _) p1 p2 (RC.spl r1 hcr)
        ·rename_i hg
         split
         ·rename_i d
          split
          ·rename_i h1
           subst h1
           intro hp
           obtain ⟨p1, rfl⟩ := (show _ ∧ _ from hp)
           simp only [List.map_cons, List.map_nil] at hc hsz
           unfold RVc at hc
           obtain ⟨u, us', g1, g2, g3, g4⟩ := hc
           unfold RVc at g4; subst g4
           unfold RV at g3
           obtain ⟨r1, r2⟩ := RE.at k _ hre (getD_of_lt (d := .sc undef) p1)
           refine key d p1 (by simp) ?_
           rw [g1]
           have : spl ((us.drop (k * 1)).take 1) 0 [u] = [u] := by
            unfold spl
            rw [List.take_zero, List.nil_append]
            simp only [List.length_cons, List.length_nil, Nat.zero_add]
            rw [List.drop_eq_nil_of_le (by omega)]
            rfl
           rw [this]
           exact rc_one g2 g3
          ·intro hp; exact hp.elim
         ·intro hp; exact hp.elim
       ·intro hp; exact hp.elim
      ·intro hp; exact hp.elim
     ·intro hp; exact hp.elim
    ·exact htab T cs ob es k j hT hcs hlen hea
    ·intro hp; exact hp.elim
   ·rename_i ob g k j es i c hea
    split
    ·rename_i ds hds
     exact hrow T cs ds ob g k j es i c hT hcs hlen hds hea
    ·intro hp; exact hp.elim
   ·intro hp; exact hp.elim
  ·intro hp; exact hp.elim
 ·intro hp; exact hp.elim

end
end Go.Ab
