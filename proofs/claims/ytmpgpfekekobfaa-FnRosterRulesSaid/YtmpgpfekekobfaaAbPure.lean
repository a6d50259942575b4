/- My own layer, nineteenth part: contracts of plain functions (data in, data out), and lemmas that the walks use. -/
import Derived.Test.YtmpgpfekekobfaaAbDraw4
namespace Go.Ab
set_option linter.unusedVariables false
set_option linter.unusedSimpArgs false

/-- A function of plain data: where 'p' holds it answers 'g'. -/
def pureS {α : Type} (ar : Nat) (enc : α → List D) (p : α → Prop) (g : α → AV) : FnSpec :=
  ⟨List.replicate ar none, fun ds obs => obs = [] ∧ ∃ x, ds = enc x ∧ p x, fun ds _ r new obs' => new = [] ∧ obs' = [] ∧ ∃ x, ds = enc x ∧ p x ∧ r = g x⟩

def AV.isDat : AV → Bool
  | .dat _ => true
  | _ => false
def AV.plain : AV → Bool
  | .dat _ => true
  | .tup l => l.all AV.isDat
  | _ => false

def AV.flat : AV → Prop
  | .dat d => FlatD d
  | .tup l => ∀ x ∈ l, ∃ d, x = .dat d ∧ FlatD d
  | _ => False

def lookF (f : Nat) : List (Nat × FnSpec) → Option FnSpec
  | [] => none
  | (k, x) :: r => bif Nat.beq f k then some x else lookF f r
theorem allF_nil {P : Program} : ∀ p ∈ ([] : List (Nat × FnSpec)), FnOK P p.1 p.2 := by simp
theorem allF_cons {P : Program} {k : Nat} {x : FnSpec} {r : List (Nat × FnSpec)} (h : FnOK P k x) (h' : ∀ p ∈ r, FnOK P p.1 p.2) : ∀ p ∈ (k, x) :: r, FnOK P p.1 p.2 := by
  intro p hp
  rcases List.mem_cons.1 hp with rfl | hp
  · exact h
  · exact h' p hp
theorem lookF_ok {P : Program} : ∀ {l : List (Nat × FnSpec)}, (∀ p ∈ l, FnOK P p.1 p.2) → ∀ f x, lookF f l = some x → FnOK P f x
  | [], _, f, x, h => by simp [lookF] at h
  | (k, y) :: r, hl, f, x, h => by
    unfold lookF at h
    cases hb : Nat.beq f k with
    | true =>
      rw [hb] at h
      simp only [cond_true, Option.some.injEq] at h
      subst h
      have := Nat.eq_of_beq_eq_true hb
      subst this
      exact hl (f, y) (List.mem_cons_self ..)
    | false =>
      rw [hb] at h
      exact lookF_ok (fun p hp => hl p (List.mem_cons_of_mem _ hp)) f x h

def LiveS (S : FnSpec) : Prop := ∀ ds obs, S.pre ds obs → ∃ r new obs', S.post ds obs r new obs'
theorem live_pure {α : Type} {ar : Nat} {enc : α → List D} {p : α → Prop} {g : α → AV} : LiveS (pureS ar enc p g) := by
  rintro ds obs ⟨rfl, x, rfl, hp⟩
  exact ⟨g x, [], [], rfl, rfl, x, rfl, hp, rfl⟩
theorem allL_nil : ∀ p ∈ ([] : List (Nat × FnSpec)), LiveS p.2 := by simp
theorem allL_cons {k : Nat} {x : FnSpec} {r : List (Nat × FnSpec)} (h : LiveS x) (h' : ∀ p ∈ r, LiveS p.2) : ∀ p ∈ (k, x) :: r, LiveS p.2 := by
  intro p hp
  rcases List.mem_cons.1 hp with rfl | hp
  · exact h
  · exact h' p hp
theorem lookF_live : ∀ {l : List (Nat × FnSpec)}, (∀ p ∈ l, LiveS p.2) → Live (fun f => lookF f l)
  | [], _ => by intro f x h; simp [lookF] at h
  | (k, y) :: r, hl => by
    intro f x h
    change lookF f ((k, y) :: r) = some x at h
    unfold lookF at h
    cases hb : Nat.beq f k with
    | true =>
      rw [hb] at h
      simp only [cond_true, Option.some.injEq] at h
      subst h
      exact hl (k, y) (List.mem_cons_self ..)
    | false =>
      rw [hb] at h
      exact lookF_live (fun p hp => hl p (List.mem_cons_of_mem _ hp)) f x h

section
variable {P : Program} {cx : Cx} {κ : Kap} {F : Nat → Prop} {w : World} {U : Nat → Prop} {nm : Nat} {σ : Objs} {ty : TypeId → Option TyE} {Γ : Nat → Option FnSpec}

theorem dats_shift : ∀ {l : List AV}, l.all AV.isDat = true → shifts nm l = l
  | [], _ => rfl
  | x :: l, h => by
    simp only [List.all_cons, Bool.and_eq_true] at h
    cases x with
    | dat d => unfold shifts; rw [dats_shift h.2]; rfl
    | _ => simp [AV.isDat] at h
theorem plain_shift {x : AV} (h : x.plain = true) : x.shift nm = x := by
  cases x with
  | dat d => rfl
  | tup l => simp only [AV.plain] at h; unfold AV.shift; rw [dats_shift h]
  | _ => simp [AV.plain] at h
theorem all_dat_nb : ∀ {l : List AV}, l.all AV.isDat = true → NBs U l
  | [], _ => by unfold NBs; trivial
  | x :: l, h => by
    simp only [List.all_cons, Bool.and_eq_true] at h
    unfold NBs
    refine ⟨?_, all_dat_nb h.2⟩
    cases x with
    | dat d => unfold NB; trivial
    | _ => simp [AV.isDat] at h
theorem plain_nb {x : AV} (h : x.plain = true) : NB U x := by
  cases x with
  | dat d => unfold NB; trivial
  | tup l => simp only [AV.plain] at h; unfold NB; exact all_dat_nb h
  | _ => simp [AV.plain] at h

theorem args_none_ns : ∀ (n : Nat) (xs : List AV) (ds : List D) (ns rd : List Nat), argsOf σ (List.replicate n none) xs = some (ds, ns, rd) → ns = [] := by
  intro n xs ds ns rd h
  refine (args_names _ xs ds ns rd h).2 ?_
  simp [lends]

/-- A plain function's contract. -/
theorem fnOK_pure {α : Type} {ar : Nat} {enc : α → List D} {p : α → Prop} {g : α → AV} (hty : ∀ t x, ty t = some x → TyOK P t x) {f : Nat} {fn : Func} {c : Code} (hc : ∀ args w, (callFunc f args).run P w = .ok (.enter f args) w) (hf : P.funcs[f]? = some fn) (hb : fn.body = some c)
    (rs : List ResultVar) (hrs : fn.results.toList = rs) (n : Nat) (hn : fn.ntmps = n) (har : ar ≤ n) (hlen : ∀ x, (enc x).length = ar)
    (h : ∀ x cx, p x → cx.L = 0 → Ok P cx c (Fin ty rs 0 (fun r new obs' => new = [] ∧ obs' = [] ∧ r = g x)) ⟨(enc x).map .dat ++ List.replicate (n - ar) AV.und, obs [], 0⟩) : FnOK P f (pureS ar enc p g) := by
  have hhead : ∀ (ds : List D) (k : Nat), headAV (List.replicate ds.length none) ds k = ds.map .dat := by
    intro ds
    induction ds with
    | nil => intro k; rfl
    | cons d ds ih => intro k; simp only [List.length_cons, List.replicate_succ, headAV, ih, List.map_cons]
  have h0 : ∀ ds obs cx, (pureS ar enc p g).pre ds obs → cx.L = obs.length → Ok P cx c (Fin ty rs obs.length ((pureS ar enc p g).post ds obs)) ⟨headAV (pureS ar enc p g).lend ds 0 ++ List.replicate (n - (headAV (pureS ar enc p g).lend ds 0).length) .und, lentOb obs, ar⟩ := by
    rintro ds obs cx ⟨rfl, x, rfl, hp⟩ hL
    have hh : headAV (pureS ar enc p g).lend (enc x) 0 = (enc x).map .dat := by
      show headAV (List.replicate ar none) (enc x) 0 = _
      rw [← hlen x]; exact hhead _ _
    rw [hh, List.length_map, hlen x]
    have h1 := h x cx hp (by simpa using hL)
    have hw : Wk cx ⟨(enc x).map .dat ++ List.replicate (n - ar) AV.und, lentOb [], ar⟩ ⟨(enc x).map .dat ++ List.replicate (n - ar) AV.und, obs [], 0⟩ := by
      intro κ F a w hr
      obtain ⟨he, ho⟩ := hr
      have hnb : ∀ t, NB (U := fun m => m < 0) (((enc x).map AV.dat ++ List.replicate (n - ar) AV.und).getD t .und) := by
        intro t
        rw [List.getD_eq_getElem?_getD]
        cases ht : ((enc x).map AV.dat ++ List.replicate (n - ar) AV.und)[t]? with
        | none => simp only [Option.getD_none]; unfold NB; trivial
        | some y =>
          have hm := List.mem_of_getElem? ht
          simp only [Option.getD_some]
          rcases List.mem_append.1 hm with hm | hm
          · obtain ⟨d, _, rfl⟩ := List.mem_map.1 hm; unfold NB; trivial
          · have := (List.mem_replicate.1 hm).2; subst this; unfold NB; trivial
      refine ⟨κ, F, fun _ h => h, ⟨he.size, he.dfr, he.rv, hnb⟩, ?_⟩
      have hz : ∀ (o : Nat) (x : Obj'), obs [] o = some x → False := fun o x hx => by cases hx
      exact ⟨fun o x hx => (hz o x hx).elim, fun o x hx => (hz o x hx).elim, fun o x hx => (hz o x hx).elim, fun o x o' x' hx => (hz o x hx).elim, ho.fG, ho.kB, ho.gB, ho.bs, fun j hj => by rw [hL] at hj; simp at hj⟩
    refine Ok_weak hw (Ok.mono h1 ?_)
    rintro e s ⟨he, v, r, ns, new, obs', h1, h2, ⟨h3, h4, h5⟩, h6⟩
    exact ⟨he, v, r, ns, new, obs', h1, h2, ⟨h3, h4, x, rfl, hp, h5⟩, h6⟩
  exact fnOK_of hty (pureS ar enc p g) ar hc hf hb (by simp [pureS]) rs hrs n hn (by rintro ds obs ⟨rfl, _⟩; simp) h0

theorem fin_pure {rs : List ResultVar} {s : St} {v z : AV} (h1 : resAV ty rs s.ob s.env = some v) (h2 : Exp 0 s.ob [] v z) : Fin ty rs 0 (fun r new obs' => new = [] ∧ obs' = [] ∧ r = z) .ret s :=
  ⟨trivial, v, z, [], [], [], h1, h2, ⟨rfl, rfl, rfl⟩, rfl, rfl, List.nodup_nil, by simp, by simp, by simp⟩

theorem vle_unk {L : Nat} {ren : List (Nat × Nat)} {nils : List Nat} : ∀ x : AV, VLe L σ ren nils x .unk
  | .dat _ | .own _ | .ref _ _ | .eref _ _ _ _ | .row _ _ _ _ | .rref _ _ _ _ _ _ _ | .fp _ | .aggv _ | .tup _ | .fn _ _ | .und => by unfold VLe; exact .inl rfl
  | .unk => by unfold VLe; rfl
theorem vles_nil {L : Nat} {ren : List (Nat × Nat)} {nils : List Nat} : VLes L σ ren nils [] [] := by unfold VLes; rfl
theorem vles_cons {L : Nat} {ren : List (Nat × Nat)} {nils : List Nat} {x y : AV} {l l' : List AV} (h : VLe L σ ren nils x y) (h' : VLes L σ ren nils l l') : VLes L σ ren nils (x :: l) (y :: l') := by unfold VLes; exact ⟨y, l', rfl, h, h'⟩
theorem vle_own {L : Nat} {ren : List (Nat × Nat)} {nils : List Nat} {o o' : Nat} (h : (o', o) ∈ ren) : VLe L σ ren nils (.own o) (.own o') := by unfold VLe; exact .inr (.inl ⟨o', rfl, h⟩)
theorem vle_ref {L : Nat} {ren : List (Nat × Nat)} {nils : List Nat} {o o' i : Nat} (h : (o', o) ∈ ren) : VLe L σ ren nils (.ref o i) (.ref o' i) := by unfold VLe; exact .inr ⟨o', rfl, h⟩
theorem vle_frz {L : Nat} {ren : List (Nat × Nat)} {nils : List Nat} {o : Nat} {es : Nat} {l l' : List D} (h : slO σ o = some (es, l)) (h2 : o ∉ ren.map Prod.snd) (h3 : L ≤ o) (h4 : l = l') : VLe L σ ren nils (.own o) (.dat (.sl es l')) := by subst h4; unfold VLe; exact .inr (.inr ⟨es, l, h, h2, h3, rfl⟩)
theorem vle_nil {L : Nat} {ren : List (Nat × Nat)} {nils : List Nat} {o : Nat} (h : o ∈ nils) : VLe L σ ren nils (.dat (.sc (.slice none 0 0))) (.own o) := by unfold VLe; exact .inr (.inr ⟨rfl, o, rfl, h⟩)
theorem vle_und {L : Nat} {ren : List (Nat × Nat)} {nils : List Nat} : VLe L σ ren nils .und .und := by unfold VLe; exact .inr rfl

theorem dle_refl : ∀ d : D, DLe d d
  | .sc v => by unfold DLe; exact .inl rfl
  | .sl es l => by unfold DLe; rfl
  | .agg l => by unfold DLe; exact ⟨l, rfl, dles_refl l⟩
  where dles_refl : ∀ l : List D, DLes l l
  | [] => by unfold DLes; rfl
  | d :: l => by unfold DLes; exact ⟨d, l, rfl, dle_refl d, dles_refl l⟩

theorem vle_dat {L : Nat} {ren : List (Nat × Nat)} {nils : List Nat} {d d' : D} (h : d = d') : VLe L σ ren nils (.dat d) (.dat d') := by subst h; unfold VLe; exact .inr (.inl ⟨d, rfl, dle_refl d⟩)
theorem vle_nilD {L : Nat} {ren : List (Nat × Nat)} {nils : List Nat} {es : Nat} : VLe L σ ren nils (.dat (.sc (.slice none 0 0))) (.dat (.sl es [])) := by unfold VLe; exact .inr (.inl ⟨_, rfl, by unfold DLe; exact .inr ⟨rfl, es, rfl⟩⟩)
theorem exp_dat {k : Nat} {ns : List Nat} {d d' : D} (h : d = d') : Exp k σ ns (.dat d) (.dat d') := by subst h; unfold Exp; exact ⟨d, rfl, dle_refl d⟩
theorem exp_nil {k : Nat} {ns : List Nat} {es : Nat} {l : List D} (h : l = []) : Exp k σ ns (.dat (.sc (.slice none 0 0))) (.dat (.sl es l)) := by subst h; unfold Exp; exact ⟨_, rfl, by unfold DLe; exact .inr ⟨rfl, es, rfl⟩⟩
theorem exp_own {k o : Nat} {ns : List Nat} {es : Nat} {l l' : List D} (h : slO σ o = some (es, l)) (hn : o ∉ ns) (hk : k ≤ o) (he : l = l') : Exp k σ ns (.own o) (.dat (.sl es l')) := by subst he; unfold Exp; exact .inl ⟨es, l, h, hn, hk, rfl⟩
theorem exp_tup {k : Nat} {ns : List Nat} {l l' : List AV} (h : ExpL k σ ns l l') : Exp k σ ns (.tup l) (.tup l') := by unfold Exp; exact ⟨l', rfl, h⟩
theorem expL_nil {k : Nat} {ns : List Nat} : ExpL k σ ns [] [] := by unfold ExpL; rfl
theorem expL_cons {k : Nat} {ns : List Nat} {x y : AV} {l l' : List AV} (h : Exp k σ ns x y) (h' : ExpL k σ ns l l') : ExpL k σ ns (x :: l) (y :: l') := by unfold ExpL; exact ⟨y, l', rfl, h, h'⟩
theorem exp_agg {k : Nat} {ns : List Nat} {l : List AV} {ds : List D} (h : ExpD k σ ns l ds) : Exp k σ ns (.aggv l) (.dat (.agg ds)) := by unfold Exp; exact .inl ⟨ds, rfl, h⟩
theorem expD_nil {k : Nat} {ns : List Nat} : ExpD k σ ns [] [] := by unfold ExpD; rfl
theorem expD_cons {k : Nat} {ns : List Nat} {x : AV} {y : D} {l : List AV} {l' : List D} (h : Exp k σ ns x (.dat y)) (h' : ExpD k σ ns l l') : ExpD k σ ns (x :: l) (y :: l') := by unfold ExpD; exact ⟨y, l', rfl, h, h'⟩


/-- The general contract: arguments and lent objects by a typed description x; what comes out: a relation. -/
def genS {α : Type} (lend : List (Option Bool)) (encD : α → List D) (encO : α → List Obj') (p : α → Prop) (R : α → AV → List Obj' → List Obj' → Prop) : FnSpec :=
  ⟨lend, fun ds obs => ∃ x, ds = encD x ∧ obs = encO x ∧ p x, fun ds obs r new obs' => ∃ x, ds = encD x ∧ obs = encO x ∧ p x ∧ R x r new obs'⟩

theorem live_gen {α : Type} {lend : List (Option Bool)} {encD : α → List D} {encO : α → List Obj'} {p : α → Prop} {R : α → AV → List Obj' → List Obj' → Prop} (h : ∀ x, p x → ∃ r new obs', R x r new obs') : LiveS (genS lend encD encO p R) := by
  rintro ds obs ⟨x, rfl, rfl, hp⟩
  obtain ⟨r, new, obs', hR⟩ := h x hp
  exact ⟨r, new, obs', x, rfl, rfl, hp, hR⟩

theorem fnOK_gen {α : Type} {lend : List (Option Bool)} {encD : α → List D} {encO : α → List Obj'} {p : α → Prop} {R : α → AV → List Obj' → List Obj' → Prop} (hty : ∀ t x, ty t = some x → TyOK P t x) {f : Nat} {fn : Func} {c : Code} (hc : ∀ args w, (callFunc f args).run P w = .ok (.enter f args) w) (hf : P.funcs[f]? = some fn) (hb : fn.body = some c)
    (rs : List ResultVar) (hrs : fn.results.toList = rs) (n : Nat) (hn : fn.ntmps = n) (N : Nat) (hN : lend.length ≤ N) (hO : ∀ x, p x → (encO x).length ≤ N)
    (h : ∀ x cx, p x → cx.L = (encO x).length → Ok P cx c (Fin ty rs (encO x).length (R x)) ⟨headAV lend (encD x) 0 ++ List.replicate (n - (headAV lend (encD x) 0).length) AV.und, lentOb (encO x), N⟩) : FnOK P f (genS lend encD encO p R) := by
  refine fnOK_of hty (genS lend encD encO p R) N hc hf hb hN rs hrs n hn (by rintro ds obs ⟨x, rfl, rfl, hp⟩; exact hO x hp) ?_
  rintro ds obs cx ⟨x, rfl, rfl, hp⟩ hL
  refine Ok.mono (h x cx hp hL) ?_
  rintro e s ⟨he, v, r, ns, new, obs', h1, h2, h3, h4⟩
  exact ⟨he, v, r, ns, new, obs', h1, h2, ⟨x, rfl, rfl, hp, h3⟩, h4⟩

/-- The end of a body. -/
theorem fin_gen {rs : List ResultVar} {s : St} {k : Nat} {v r : AV} {new obs' : List Obj'} {R : AV → List Obj' → List Obj' → Prop} (ns : List Nat) (h1 : resAV ty rs s.ob s.env = some v) (h2 : Exp k s.ob ns v r) (h3 : objsOf s.ob ns = some new) (h4 : objsOf s.ob (List.range k) = some obs')
    (h5 : ns.Nodup ∧ ∀ n ∈ ns, k ≤ n) (h6 : (∀ x ∈ new, NBt x) ∧ ∀ x ∈ obs', NBo (fun _ => False) x) (hR : R r new obs') : Fin ty rs k R .ret s :=
  ⟨trivial, v, r, ns, new, obs', h1, h2, hR, h3, h4, h5.1, h5.2, h6.1, h6.2⟩
theorem exp_hand {k : Nat} {ns : List Nat} {o j : Nat} (h : ns[j]? = some o) : Exp k σ ns (.own o) (.own j) := by unfold Exp; exact .inr ⟨j, h, rfl⟩
theorem exp_aggv {k : Nat} {ns : List Nat} {l l' : List AV} (h : ExpL k σ ns l l') : Exp k σ ns (.aggv l) (.aggv l') := by unfold Exp; exact .inr ⟨l', rfl, h⟩
end
end Go.Ab
