/- My own layer: the rules of the walks in few words. -/
import Derived.Test.YtjahononbnbjnaaAbC0
namespace Go.Ab
set_option linter.unusedVariables false
set_option linter.unusedSimpArgs false
section
variable {α β : Type}
theorem fmN {P : Program} {J : Inv} {ty : TypeId → Option TyE} (T : TT P ty) (N : Nat) (M : MS α β) (l : List (FO P J)) {f : Nat} {fn : Func} {c : Code} (hc : ∀ args w, (callFunc f args).run P w = .ok (.enter f args) w) (hf : P.funcs[f]? = some fn) (hb : fn.body = some c)
  {rs : Array ResultVar} (hrs : fn.results = rs) {n : Nat} (hn : fn.ntmps = n)
  (h : ∀ x y cx, GG P ty cx M.p.nl l → M.m x = some y → Ok P cx c (Fin ty rs.toList M.p.nl (fun r new ob' => r = M.r y ∧ new = M.n y ∧ ob' = M.o x y)) ((⟨hdX 0 (headAV M.p.lend (M.p.d x) 0), lentX 0 (M.p.o x), N⟩ : X).st n))
  (hN : (Nat.ble (Pt.ns M.p.lend) N && Nat.ble M.p.lend.length n && Nat.ble M.p.no N) = true := by kernel_rfl) : FnOK P J f M.S := by
 simp only [Bool.and_eq_true] at hN
 have h3 := Nat.le_of_ble_eq_true hN.2
 refine fnOK_mod T.ty hc hf hb rs.toList (by rw [hrs]) n hn N (by simp only [Bool.and_eq_true]; exact hN.1) M.p.nl (fun x => by rw [M.p.lo]; exact ⟨h3, Nat.le_of_ble_eq_true M.p.le⟩) ?_
 intro x y cx hm hL hJ
 exact h x y cx ⟨T, hL, hJ⟩ hm
theorem fm {P : Program} {J : Inv} {ty : TypeId → Option TyE} (T : TT P ty) (M : MS α β) (l : List (FO P J)) {f : Nat} {fn : Func} {c : Code} (hc : ∀ args w, (callFunc f args).run P w = .ok (.enter f args) w) (hf : P.funcs[f]? = some fn) (hb : fn.body = some c)
  {rs : Array ResultVar} (hrs : fn.results = rs) {n : Nat} (hn : fn.ntmps = n)
  (h : ∀ x y cx, GG P ty cx M.p.nl l → M.m x = some y → Ok P cx c (Fin ty rs.toList M.p.nl (fun r new ob' => r = M.r y ∧ new = M.n y ∧ ob' = M.o x y)) ((⟨hdX 0 (headAV M.p.lend (M.p.d x) 0), lentX 0 (M.p.o x), 16⟩ : X).st n))
  (hN : (Nat.ble (Pt.ns M.p.lend) 16 && Nat.ble M.p.lend.length n && Nat.ble M.p.no 16) = true := by kernel_rfl) : FnOK P J f M.S := fmN T 16 M l hc hf hb hrs hn h hN
end

structure HP where
 hs : List (Nat × H)
 ps : List Prop
 ok : AllP ps
def h0 : HP := ⟨[], [], .nil⟩
section
variable {α : Type} [Enc α]
def hO (i : Nat) (a : H) (t : HP) : HP := ⟨(i, a) :: t.hs, t.ps, t.ok⟩
def hP {p : Prop} (h : p) (t : HP) : HP := ⟨t.hs, p :: t.ps, .cons h t.ok⟩
def hK {p : Prop} [Decidable p] {u : Unit} (h : chk p = some u) (t : HP) : HP := ⟨t.hs, p :: t.ps, .cons (chk_t h) t.ok⟩
def hC (i : Nat) {S : FnSpec} {ds : List D} {obs : List Obj'} {r : AV} {n o : List Obj'} (h : CallOK S ds obs r n o) (t : HP) : HP := ⟨(i, .c r n o) :: t.hs, CallOK S ds obs r n o :: t.ps, .cons h t.ok⟩
def hF (i : Nat) {S : FnSpec} {ds : List D} {obs : List Obj'} {r : AV} {n o : List Obj'} (h : CallOK S ds obs r n o) (hf : FlatRes n o) (t : HP) : HP := ⟨(i, .cf r n o) :: t.hs, CallOK S ds obs r n o :: FlatRes n o :: t.ps, .cons h (.cons hf t.ok)⟩
def hW (i : Nat) {S : FnSpec} {ds : List D} {obs : List Obj'} {r : AV} {n o : List Obj'} {dx : D} {L : List D} {k : Nat} {p : Prop} (h : CallOK S ds obs r n o) (h1 : L[k]? = some dx) (h2 : p) (t : HP) : HP := ⟨(i, .cv dx r n o) :: t.hs, CallOK S ds obs r n o :: (L[k]? = some dx) :: p :: t.ps, .cons h (.cons h1 (.cons h2 t.ok))⟩
def hN (i : Nat) (l : List α) (t : HP) : HP := ⟨(i, .n (l.length : Int)) :: t.hs, ((((l.map Enc.e).length : Nat) : Int) = (l.length : Int)) :: t.ps, .cons (len_m Enc.e l) t.ok⟩
def hD (i : Nat) {l : List α} {k : Int} {x : α} (h : idx l k = some x) (t : HP) : HP := ⟨(i, .d (Enc.e x)) :: t.hs, (0 ≤ k ∧ (l.map Enc.e)[k.toNat]? = some (Enc.e x)) :: t.ps, .cons (idx_m h) t.ok⟩
def hE (i : Nat) {l : List α} {k : Int} {x : α} (h : idx l k = some x) (t : HP) : HP := ⟨(i, .d (Enc.e x)) :: t.hs, ((l.map Enc.e)[k.toNat]? = some (Enc.e x)) :: t.ps, .cons (idx_m2 h) t.ok⟩
def hS (i : Nat) {l : List α} {k : Int} {x : α} (h : idx l k = some x) (y : α) (t : HP) : HP := ⟨(i, .sd (Enc.e x) (List.map Enc.e (l.set k.toNat y))) :: t.hs, ((l.map Enc.e)[k.toNat]? = some (Enc.e x)) :: ((l.map Enc.e).set k.toNat (Enc.e y) = (l.set k.toNat y).map Enc.e) :: t.ps, .cons (idx_m2 h) (.cons (set_m Enc.e l k.toNat y) t.ok)⟩
def hA (i b : Nat) {l r : List α} {u : Unit} (h : chk (l.length + r.length ≤ 4294967296) = some u) (t : HP) (hb : Nat.ble b 32768 = true := by rfl) : HP :=
 ⟨(i, .l (List.map Enc.e (l ++ r))) :: t.hs, ((((l.map Enc.e).length + (r.map Enc.e).length : Nat) : Int) ≤ 140737488355328 ∧ (((l.map Enc.e).length + (r.map Enc.e).length : Nat) : Int) * (b : Int) ≤ 140737488355328) :: (l.map Enc.e ++ r.map Enc.e = (l ++ r).map Enc.e) :: t.ps, .cons (app_p (chk_t h) hb) (.cons (app_m Enc.e l r) t.ok)⟩
def hB (i b : Nat) {r : List α} {u : Unit} (h : chk (r.length ≤ 4294967296) = some u) (t : HP) (hb : Nat.ble b 32768 = true := by rfl) : HP :=
 ⟨(i, .l (List.map Enc.e r)) :: t.hs, ((((r.map Enc.e).length : Nat) : Int) ≤ 140737488355328 ∧ (((r.map Enc.e).length : Nat) : Int) * (b : Int) ≤ 140737488355328) :: (r.map Enc.e = r.map Enc.e) :: t.ps, .cons (app_p0 (chk_t h) hb) (.cons rfl t.ok)⟩
def hU (i : Nat) {l : List α} {lo hi : Int} {u : Unit} (h : chk (0 ≤ lo ∧ lo ≤ hi ∧ hi ≤ (l.length : Int)) = some u) (t : HP) : HP :=
 ⟨(i, .l (List.map Enc.e ((l.take hi.toNat).drop lo.toNat))) :: t.hs, (0 ≤ lo ∧ lo ≤ hi ∧ hi ≤ ((l.map Enc.e).length : Int)) :: (((l.map Enc.e).take hi.toNat).drop lo.toNat = ((l.take hi.toNat).drop lo.toNat).map Enc.e) :: t.ps, .cons (cut_p (chk_t h)) (.cons (cut_m Enc.e l lo.toNat hi.toNat) t.ok)⟩
def hV (i : Nat) {l : List α} {lo : Int} {u : Unit} (h : chk (0 ≤ lo ∧ lo ≤ (l.length : Int)) = some u) (t : HP) : HP :=
 ⟨(i, .l (List.map Enc.e (l.drop lo.toNat))) :: t.hs, (0 ≤ lo ∧ lo ≤ ((l.map Enc.e).length : Int)) :: ((l.map Enc.e).drop lo.toNat = (l.drop lo.toNat).map Enc.e) :: t.ps, .cons (drp_p (chk_t h)) (.cons (drop_m Enc.e l lo.toNat) t.ok)⟩
end

class RT (Q : Exit → St → Prop) (R : outParam (Exit → St → Prop)) : Prop where
 to : ∀ s, R .ret s → Q .ret s
instance {J : St → Prop} {Q R : Exit → St → Prop} [h : RT Q R] : RT (Then J Q) R := ⟨fun s hs => thR (h.to s hs)⟩
instance {id : Nat} {Q R : Exit → St → Prop} [h : RT Q R] : RT (InBlock id Q) R := ⟨fun s hs => ibR (h.to s hs)⟩
instance {ty : TypeId → Option TyE} {rs : List ResultVar} {k : Nat} {post : AV → List Obj' → List Obj' → Prop} : RT (Fin ty rs k post) (Fin ty rs k post) := ⟨fun _ hs => hs⟩

def JW {V : Type} (cx : Cx) (n : Nat) (S : V → X) (v : V) : St → Prop := fun s => Wk cx s ((S v).st n)
def JF {R V : Type} (cx : Cx) (n : Nat) (S : V → X) (v : Fl R V) : St → Prop := fun s => ∃ u, v = .go u ∧ Wk cx s ((S u).st n)
def JL {A B : Type} (cx : Cx) (n : Nat) (S : A → X) (r : Lp A B) : St → Prop := fun s => ∃ a, r = .nx a ∧ Wk cx s ((S a).st n)

mutual
def avP : AV → AV → List (Nat × Nat)
 | .own o, .own o' => [(o', o)]
 | .ref o _, .ref o' _ => [(o', o)]
 | .eref o _ _ _, .eref o' _ _ _ => [(o', o)]
 | .row o _ _ _, .row o' _ _ _ => [(o', o)]
 | .aggv l, .aggv l' => avPs l l'
 | .fn _ l, .fn _ l' => avPs l l'
 | _, _ => []
def avPs : List AV → List AV → List (Nat × Nat)
 | x :: l, x' :: l' => avP x x' ++ avPs l l'
 | _, _ => []
end
def lkN : List (Nat × Nat) → Nat → Nat
 | [], _ => 0
 | (a, b) :: r, t => bif Nat.beq t a then b else lkN r t
def mdP : AV → AV → List Md
 | .dat (.sc (.slice none 0 0)), .dat (.sl es _) => [.z es]
 | _, _ => []
def auP (n k : Nat) (x x' : X) : WP :=
 let sv := fun t => bif Nat.blt t n then lkA x.A t else .und
 let r1 := (List.range k).map (fun i => (i, i)) ++ x'.A.flatMap fun q => avP (sv q.1) q.2
 let r2 := r1 ++ x'.L.flatMap fun q => match q.2, obo x.L (lkN r1 q.1) with
  | some (.box _ l'), some (.box _ l) => avPs l l'
  | _, _ => []
 ⟨x'.A.map fun q => (q.1, mdP (sv q.1) q.2), x'.L.map fun q => (q.1, lkN r2 q.1, []), [], x'.nx⟩

section
variable {P : Program} {J : Inv} {ty : TypeId → Option TyE} {cx : Cx} {k n : Nat} {l : List (FO P J)} {x : X} {Q : Exit → St → Prop}
theorem re {id : Nat} {os : List Oper} (G : GG P ty cx k l) (p : HP) (hq : Q .normal ((rX (exR (some k) chk0 ty (GF l) os n os 0 p.hs x)).st n)) (h : rP (exR (some k) chk0 ty (GF l) os n os 0 p.hs x) = some p.ps := by kernel_rfl) : Ok P cx (.region id os.toArray false) Q (x.st n) :=
 X_reg G.t.ty G.ok G.hL p.hs p.ok h hq
theorem rs {id : Nat} {os : List Oper} {c : Code} (G : GG P ty cx k l) (p : HP) (hq : Ok P cx c Q ((rX (exR (some k) chk0 ty (GF l) os n os 0 p.hs x)).st n)) (h : rP (exR (some k) chk0 ty (GF l) os n os 0 p.hs x) = some p.ps := by kernel_rfl) : Ok P cx (.seq (.region id os.toArray false) c) Q (x.st n) :=
 X_reg_seq G.t.ty G.ok G.hL p.hs p.ok h hq
theorem rh {id : Nat} {os : List Oper} (G : GG P ty cx k l) (hq : Q .normal ((rX (exR (some k) chk0 ty (GF l) os n os 0 [] x)).st n)) (h : rP (exR (some k) chk0 ty (GF l) os n os 0 [] x) = some [] := by kernel_rfl) : Ok P cx (.region id os.toArray false) Q (x.st n) :=
 X_reg G.t.ty G.ok G.hL [] .nil h hq
theorem rg {id : Nat} {os : List Oper} {c : Code} (G : GG P ty cx k l) (hq : Ok P cx c Q ((rX (exR (some k) chk0 ty (GF l) os n os 0 [] x)).st n)) (h : rP (exR (some k) chk0 ty (GF l) os n os 0 [] x) = some [] := by kernel_rfl) : Ok P cx (.seq (.region id os.toArray false) c) Q (x.st n) :=
 X_reg_seq G.t.ty G.ok G.hL [] .nil h hq
theorem de {id : Nat} {os : List Oper} (G : GG P ty cx k l) (M : List (Nat × List Nat)) (p : HP) (hq : Q .normal ((rX (exR none (chkM ty (GF l) os n M) ty (GF l) os n os 0 p.hs x)).st n))
  (hB : (Region.lexB .any os.toArray && lexM ty (GF l) (mAt M) os.toArray) = true := by kernel_rfl) (h : rP (exR none (chkM ty (GF l) os n M) ty (GF l) os n os 0 p.hs x) = some p.ps := by kernel_rfl) : Ok P cx (.region id os.toArray true) Q (x.st n) :=
 X_draw G.t.mx G.t.ty G.ok G.lv M hB p.hs p.ok h hq
theorem ds {id : Nat} {os : List Oper} {c : Code} (G : GG P ty cx k l) (M : List (Nat × List Nat)) (p : HP) (hq : Ok P cx c Q ((rX (exR none (chkM ty (GF l) os n M) ty (GF l) os n os 0 p.hs x)).st n))
  (hB : (Region.lexB .any os.toArray && lexM ty (GF l) (mAt M) os.toArray) = true := by kernel_rfl) (h : rP (exR none (chkM ty (GF l) os n M) ty (GF l) os n os 0 p.hs x) = some p.ps := by kernel_rfl) : Ok P cx (.seq (.region id os.toArray true) c) Q (x.st n) :=
 X_draw_seq G.t.mx G.t.ty G.ok G.lv M hB p.hs p.ok h hq

theorem cd {β : Type} {c : Operand} {t e : Code} {b : Bool} {u w : Option β} {y : β} (hm : (if b = true then u else w) = some y) (ht : u = some y → Ok P cx t Q (x.st n)) (hf : w = some y → Ok P cx e Q (x.st n)) (hc : evX n x.A c = .dat (.sc (.bool b)) := by kernel_rfl) : Ok P cx (.cond c t e) Q (x.st n) :=
 X_cond b hc (fun h => ht (it h hm)) (fun h => hf (ie h hm))
theorem bf {β : Type} {b : Bool} {u w : Option β} {y : β} (hm : (if b = true then u else w) = some y) : (b = true ∧ u = some y) ∨ (b = false ∧ w = some y) := by
 cases b
 ·exact .inr ⟨rfl, hm⟩
 ·exact .inl ⟨rfl, hm⟩
theorem jn {V β : Type} {m : Option V} {f : V → Option β} {y : β} (hm : m.bind f = some y) (S : V → X) {c c' : Code} (h1 : ∀ v, m = some v → Ok P cx c (Then (JW cx n S v) Q) (x.st n)) (h2 : ∀ v, f v = some y → Ok P cx c' Q ((S v).st n)) : Ok P cx (.seq c c') Q (x.st n) := by
 obtain ⟨v, hv, hk⟩ := obind hm
 exact X_join S v (h1 v hv) (h2 v hk)
theorem jF {R V : Type} {m : Option (Fl R V)} {f : V → Option R} {y : R} (hm : flb m f = some y) (S : V → X) {c c' : Code} (h1 : ∀ v, (∀ r, v = .ret r → r = y) → m = some v → Ok P cx c (Then (JF cx n S v) Q) (x.st n)) (h2 : ∀ v, f v = some y → Ok P cx c' Q ((S v).st n)) : Ok P cx (.seq c c') Q (x.st n) := by
 obtain ⟨v, hv, hr, hk⟩ := flb_t hm
 exact X_joinF S v (h1 v hr hv) (fun u hu => h2 u (hk u hu))
theorem tl {V β : Type} {m : Option V} {f : V → Option β} {y : β} (hm : m.bind f = some y) (S : V → X) {c : Code} (h1 : ∀ v, m = some v → Ok P cx c (Then (JW cx n S v) Q) (x.st n)) (h2 : ∀ v, f v = some y → ∀ s, Wk cx s ((S v).st n) → Q .normal s) : Ok P cx c Q (x.st n) := by
 obtain ⟨v, hv, hk⟩ := obind hm
 exact X_tail S v (h1 v hv) (h2 v hk)
theorem tF {R V : Type} {m : Option (Fl R V)} {f : V → Option R} {y : R} (hm : flb m f = some y) (S : V → X) {c : Code} (h1 : ∀ v, (∀ r, v = .ret r → r = y) → m = some v → Ok P cx c (Then (JF cx n S v) Q) (x.st n)) (h2 : ∀ v, f v = some y → ∀ s, Wk cx s ((S v).st n) → Q .normal s) : Ok P cx c Q (x.st n) := by
 obtain ⟨v, hv, hr, hk⟩ := flb_t hm
 exact X_tailF S v (h1 v hr hv) (fun u hu => h2 u (hk u hu))
theorem lpP {A B : Type} {step : A → Option (Lp A B)} {a0 : A} {b : B} (hm : iter step a0 = some b) (S : A → X) {st : St} (hw : Wk cx st ((S a0).st n)) {c : Code}
  (round : ∀ a r, (∀ b', r = .dn b' → b' = b) → step a = some r → Ok P cx c (Then (JL cx n S r) Q) ((S a).st n)) : Ok P cx (.loop c) Q st :=
 X_loop S hm hw fun a r hs hb => round a r hb hs
theorem wkA {x' : X} (G : GG P ty cx k l) (h : (wkOK2 n k (auP n k x x') x, sortX (wkX n k (auP n k x x') x)) = (true, x')) : Wk cx (x.st n) (x'.st n) := Wk_J G.hL _ h
theorem lp {A B : Type} {step : A → Option (Lp A B)} {a0 : A} {b : B} (G : GG P ty cx k l) (hm : iter step a0 = some b) (S : A → X) {c : Code}
  (round : ∀ a r, (∀ b', r = .dn b' → b' = b) → step a = some r → Ok P cx c (Then (JL cx n S r) Q) ((S a).st n)) (h : (wkOK2 n k (auP n k x (S a0)) x, sortX (wkX n k (auP n k x (S a0)) x)) = (true, S a0) := by kernel_rfl) : Ok P cx (.loop c) Q (x.st n) :=
 lpP hm S (wkA G h) round

theorem wJ {V : Type} {S : V → X} {a v : V} (G : GG P ty cx k l) (hm : some a = some v) (h : (wkOK2 n k (auP n k x (S a)) x, sortX (wkX n k (auP n k x (S a)) x)) = (true, S a) := by kernel_rfl) : Then (JW cx n S v) Q .normal (x.st n) := by
 cases hm; exact thN (wkA G h)
theorem wF {R V : Type} {S : V → X} {a : V} {v : Fl R V} (G : GG P ty cx k l) (hm : some (Fl.go a) = some v) (h : (wkOK2 n k (auP n k x (S a)) x, sortX (wkX n k (auP n k x (S a)) x)) = (true, S a) := by kernel_rfl) : Then (JF cx n S v) Q .normal (x.st n) := by
 cases hm; exact thN ⟨a, rfl, wkA G h⟩
theorem wL {A B : Type} {S : A → X} {a : A} {v : Lp A B} (G : GG P ty cx k l) (hm : some (Lp.nx a) = some v) (h : (wkOK2 n k (auP n k x (S a)) x, sortX (wkX n k (auP n k x (S a)) x)) = (true, S a) := by kernel_rfl) : Then (JL cx n S v) Q .normal (x.st n) := by
 cases hm; exact thN ⟨a, rfl, wkA G h⟩
theorem wD {A V : Type} {S : V → X} {a v : V} {r : Lp A V} (G : GG P ty cx k l) (hm : some (Lp.dn a) = some r) (hb : ∀ b, r = .dn b → b = v) (h : (wkOK2 n k (auP n k x (S a)) x, sortX (wkX n k (auP n k x (S a)) x)) = (true, S a) := by kernel_rfl) : Then (JW cx n S v) Q .normal (x.st n) := by
 cases hm; cases hb _ rfl; exact thN (wkA G h)
theorem wE {A R V : Type} {S : V → X} {a : V} {v : Fl R V} {r : Lp A (Fl R V)} (G : GG P ty cx k l) (hm : some (Lp.dn (Fl.go a)) = some r) (hb : ∀ b, r = .dn b → b = v) (h : (wkOK2 n k (auP n k x (S a)) x, sortX (wkX n k (auP n k x (S a)) x)) = (true, S a) := by kernel_rfl) : Then (JF cx n S v) Q .normal (x.st n) := by
 cases hm; cases hb _ rfl; exact thN ⟨a, rfl, wkA G h⟩
theorem wJp {V : Type} {S : V → X} {a v : V} (hm : some a = some v) {st : St} (h : Wk cx st ((S a).st n)) : Then (JW cx n S v) Q .normal st := by
 cases hm; exact thN h
theorem wFp {R V : Type} {S : V → X} {a : V} {v : Fl R V} (hm : some (Fl.go a) = some v) {st : St} (h : Wk cx st ((S a).st n)) : Then (JF cx n S v) Q .normal st := by
 cases hm; exact thN ⟨a, rfl, h⟩
theorem rt {rs : List ResultVar} {kk : Nat} {r0 : AV} {new0 ob0 : List Obj'} [i : RT Q (Fin ty rs kk (fun r new ob => r = r0 ∧ new = new0 ∧ ob = ob0))] (ns : List Nat) (ms : List (List Md)) (h : finX ty rs n kk ns ms x = some (r0, new0, ob0) := by kernel_rfl) : Ok P cx .ret Q (x.st n) :=
 Ok_ret (i.to _ (X_fin ns ms h trivial))
theorem sN {J : St → Prop} (h : J (x.st n)) : Ok P cx .skip (Then J Q) (x.st n) := X_skip (thN h)
end

section
variable {R V A : Type} {y a : R}
theorem eR {v : Fl R V} (hm : some (Fl.ret a) = some v) (hr : ∀ r, v = .ret r → r = y) : some a = some y := by cases hm; rw [hr _ rfl]
theorem eL {v : Fl R V} {r : Lp A (Fl R V)} (hm : some (Lp.dn (Fl.ret a)) = some r) (hb : ∀ b, r = .dn b → b = v) (hr : ∀ r, v = .ret r → r = y) : some a = some y := by
 cases hm; cases hb _ rfl; rw [hr _ rfl]
end
end Go.Ab
