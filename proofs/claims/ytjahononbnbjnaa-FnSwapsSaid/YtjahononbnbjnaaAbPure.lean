/- My own layer, nineteenth part: contracts of plain functions (data in, data out), and lemmas that the walks use. -/
import Derived.Test.YtjahononbnbjnaaAbDraw4
namespace Go.Ab
set_option linter.unusedVariables false
set_option linter.unusedSimpArgs false

def AV.isDat : AV → Bool
 | .dat _ => true
 | _ => false
def AV.plain : AV → Bool
 | .dat _ => true
 | .tup l => l.all AV.isDat
 | _ => false

def AV.flat : AV → Prop
 | .dat d => FlatD d
 | .tup l => ∀ x ∈ l, ∃ d, x = .dat d ∧ FlatD d
 | _ => False

def lookF (f : Nat) : List (Nat × FnSpec) → Option FnSpec
 | [] => none
 | (k, x) :: r => bif Nat.beq f k then some x else lookF f r
theorem allF_nil {P : Program} {J : Inv} : ∀ p ∈ ([] : List (Nat × FnSpec)), FnOK P J p.1 p.2 := by simp
theorem allF_cons {P : Program} {J : Inv} {k : Nat} {x : FnSpec} {r : List (Nat × FnSpec)} (h : FnOK P J k x) (h' : ∀ p ∈ r, FnOK P J p.1 p.2) : ∀ p ∈ (k, x) :: r, FnOK P J p.1 p.2 := by
 intro p hp
 rcases List.mem_cons.1 hp with rfl | hp
 ·exact h
 ·exact h' p hp
theorem lookF_ok {P : Program} {J : Inv} : ∀ {l : List (Nat × FnSpec)}, (∀ p ∈ l, FnOK P J p.1 p.2) → ∀ f x, lookF f l = some x → FnOK P J f x
 | [], _, f, x, h => by simp [lookF] at h
 | (k, y) :: r, hl, f, x, h => by
  unfold lookF at h
  cases hb : Nat.beq f k with
  | true =>
   rw [hb] at h
   simp only [cond_true, Option.some.injEq] at h
   subst h
   have := Nat.eq_of_beq_eq_true hb
   subst this
   exact hl (f, y) (List.mem_cons_self ..)
  | false =>
   rw [hb] at h
   exact lookF_ok (fun p hp => hl p (List.mem_cons_of_mem _ hp)) f x h

def LiveS (S : FnSpec) : Prop := ∀ ds obs, S.pre ds obs → ∃ r new obs', S.post ds obs r new obs'
theorem allL_nil : ∀ p ∈ ([] : List (Nat × FnSpec)), LiveS p.2 := by simp
theorem allL_cons {k : Nat} {x : FnSpec} {r : List (Nat × FnSpec)} (h : LiveS x) (h' : ∀ p ∈ r, LiveS p.2) : ∀ p ∈ (k, x) :: r, LiveS p.2 := by
 intro p hp
 rcases List.mem_cons.1 hp with rfl | hp
 ·exact h
 ·exact h' p hp
theorem lookF_live : ∀ {l : List (Nat × FnSpec)}, (∀ p ∈ l, LiveS p.2) → Live (fun f => lookF f l)
 | [], _ => by intro f x h; simp [lookF] at h
 | (k, y) :: r, hl => by
  intro f x h
  change lookF f ((k, y) :: r) = some x at h
  unfold lookF at h
  cases hb : Nat.beq f k with
  | true =>
   rw [hb] at h
   simp only [cond_true, Option.some.injEq] at h
   subst h
   exact hl (k, y) (List.mem_cons_self ..)
  | false =>
   rw [hb] at h
   exact lookF_live (fun p hp => hl p (List.mem_cons_of_mem _ hp)) f x h

section
variable {P : Program} {cx : Cx} {κ : Kap} {F : Nat → Prop} {w : World} {U : Nat → Prop} {nm : Nat} {σ : Objs} {ty : TypeId → Option TyE} {Γ : Nat → Option FnSpec}

theorem vle_unk {L : Nat} {ren : List (Nat × Nat)} {nils : List Nat} : ∀ x : AV, VLe L σ ren nils x .unk
 | .dat _ | .own _ | .ref _ _ | .eref _ _ _ _ | .row _ _ _ _ | .rref _ _ _ _ _ _ _ | .vw _ _ _ _ _ _ _ | .fp _ | .aggv _ | .tup _ | .fn _ _ | .und => by unfold VLe; exact .inl rfl
 | .unk => by unfold VLe; rfl
theorem vles_nil {L : Nat} {ren : List (Nat × Nat)} {nils : List Nat} : VLes L σ ren nils [] [] := by unfold VLes; rfl
theorem vles_cons {L : Nat} {ren : List (Nat × Nat)} {nils : List Nat} {x y : AV} {l l' : List AV} (h : VLe L σ ren nils x y) (h' : VLes L σ ren nils l l') : VLes L σ ren nils (x :: l) (y :: l') := by unfold VLes; exact ⟨y, l', rfl, h, h'⟩
theorem vle_own {L : Nat} {ren : List (Nat × Nat)} {nils : List Nat} {o o' : Nat} (h : (o', o) ∈ ren) : VLe L σ ren nils (.own o) (.own o') := by unfold VLe; exact .inr (.inl ⟨o', rfl, h⟩)
theorem vle_ref {L : Nat} {ren : List (Nat × Nat)} {nils : List Nat} {o o' i : Nat} (h : (o', o) ∈ ren) : VLe L σ ren nils (.ref o i) (.ref o' i) := by unfold VLe; exact .inr ⟨o', rfl, h⟩
theorem vle_frz {L : Nat} {ren : List (Nat × Nat)} {nils : List Nat} {o : Nat} {es : Nat} {l l' : List D} (h : slO σ o = some (es, l)) (h2 : o ∉ ren.map Prod.snd) (h3 : L ≤ o) (h4 : l = l') : VLe L σ ren nils (.own o) (.dat (.sl es l')) := by subst h4; unfold VLe; exact .inr (.inr ⟨es, l, h, h2, h3, rfl⟩)
theorem vle_nil {L : Nat} {ren : List (Nat × Nat)} {nils : List Nat} {o : Nat} (h : o ∈ nils) : VLe L σ ren nils (.dat (.sc (.slice none 0 0))) (.own o) := by unfold VLe; exact .inr (.inr ⟨rfl, o, rfl, h⟩)
theorem vle_und {L : Nat} {ren : List (Nat × Nat)} {nils : List Nat} : VLe L σ ren nils .und .und := by unfold VLe; exact .inr rfl

theorem dle_refl : ∀ d : D, DLe d d
 | .sc v => by unfold DLe; exact .inl rfl
 | .sl es l => by unfold DLe; rfl
 | .agg l => by unfold DLe; exact ⟨l, rfl, dles_refl l⟩
 where dles_refl : ∀ l : List D, DLes l l
 | [] => by unfold DLes; rfl
 | d :: l => by unfold DLes; exact ⟨d, l, rfl, dle_refl d, dles_refl l⟩

theorem vle_dat {L : Nat} {ren : List (Nat × Nat)} {nils : List Nat} {d d' : D} (h : d = d') : VLe L σ ren nils (.dat d) (.dat d') := by subst h; unfold VLe; exact .inr (.inl ⟨d, rfl, dle_refl d⟩)
theorem vle_nilD {L : Nat} {ren : List (Nat × Nat)} {nils : List Nat} {es : Nat} : VLe L σ ren nils (.dat (.sc (.slice none 0 0))) (.dat (.sl es [])) := by unfold VLe; exact .inr (.inl ⟨_, rfl, by unfold DLe; exact .inr ⟨rfl, es, rfl⟩⟩)
theorem exp_dat {k : Nat} {ns : List Nat} {d d' : D} (h : d = d') : Exp k σ ns (.dat d) (.dat d') := by subst h; unfold Exp; exact ⟨d, rfl, dle_refl d⟩
theorem exp_nil {k : Nat} {ns : List Nat} {es : Nat} {l : List D} (h : l = []) : Exp k σ ns (.dat (.sc (.slice none 0 0))) (.dat (.sl es l)) := by subst h; unfold Exp; exact ⟨_, rfl, by unfold DLe; exact .inr ⟨rfl, es, rfl⟩⟩
theorem exp_own {k o : Nat} {ns : List Nat} {es : Nat} {l l' : List D} (h : slO σ o = some (es, l)) (hn : o ∉ ns) (hk : k ≤ o) (he : l = l') : Exp k σ ns (.own o) (.dat (.sl es l')) := by subst he; unfold Exp; exact .inl ⟨es, l, h, hn, hk, rfl⟩
theorem exp_tup {k : Nat} {ns : List Nat} {l l' : List AV} (h : ExpL k σ ns l l') : Exp k σ ns (.tup l) (.tup l') := by unfold Exp; exact ⟨l', rfl, h⟩
theorem expL_nil {k : Nat} {ns : List Nat} : ExpL k σ ns [] [] := by unfold ExpL; rfl
theorem expL_cons {k : Nat} {ns : List Nat} {x y : AV} {l l' : List AV} (h : Exp k σ ns x y) (h' : ExpL k σ ns l l') : ExpL k σ ns (x :: l) (y :: l') := by unfold ExpL; exact ⟨y, l', rfl, h, h'⟩
theorem exp_agg {k : Nat} {ns : List Nat} {l : List AV} {ds : List D} (h : ExpD k σ ns l ds) : Exp k σ ns (.aggv l) (.dat (.agg ds)) := by unfold Exp; exact .inl ⟨ds, rfl, h⟩
theorem exp_aggv {k : Nat} {ns : List Nat} {l l' : List AV} (h : ExpL k σ ns l l') : Exp k σ ns (.aggv l) (.aggv l') := by unfold Exp; exact .inr ⟨l', rfl, h⟩
end
end Go.Ab
