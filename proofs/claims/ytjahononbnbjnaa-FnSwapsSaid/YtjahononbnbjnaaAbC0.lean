/- My own layer: contracts by models in few words. -/
import Derived.Laws.BitsLemmas
import Derived.Test.YtjahononbnbjnaaAbEx5
namespace Go.Ab
set_option linter.unusedVariables false
set_option linter.unusedSimpArgs false

structure FO (P : Program) (J : Inv) where
 f : Nat
 S : FnSpec
 ok : FnOK P J f S
 lv : LiveS S
def gam {P : Program} {J : Inv} : List (FO P J) → List (Nat × FnSpec)
 | [] => []
 | F :: r => (F.f, F.S) :: gam r
theorem gam_ok {P : Program} {J : Inv} : ∀ (l : List (FO P J)), ∀ p ∈ gam l, FnOK P J p.1 p.2
 | [] => allF_nil
 | F :: r => allF_cons F.ok (gam_ok r)
theorem gam_lv {P : Program} {J : Inv} : ∀ (l : List (FO P J)), ∀ p ∈ gam l, LiveS p.2
 | [] => allL_nil
 | F :: r => allL_cons F.lv (gam_lv r)
abbrev GF {P : Program} {J : Inv} (l : List (FO P J)) : Nat → Option FnSpec := fun f => lookF f (gam l)
structure TT (P : Program) (ty : TypeId → Option TyE) : Prop where
 mx : P.follows .mixedOrders = true
 ty : ∀ t x, ty t = some x → TyOK P t x
structure GG (P : Program) {J : Inv} (ty : TypeId → Option TyE) (cx : Cx) (k : Nat) (l : List (FO P J)) : Prop where
 t : TT P ty
 hL : cx.L = k
 hJ : cx.J = J
theorem GG.ok {P : Program} {J : Inv} {ty : TypeId → Option TyE} {cx : Cx} {k : Nat} {l : List (FO P J)} (G : GG P ty cx k l) : ∀ f S, GF l f = some S → FnOK P cx.J f S := by rw [G.hJ]; exact lookF_ok (gam_ok l)
theorem GG.lv {P : Program} {J : Inv} {ty : TypeId → Option TyE} {cx : Cx} {k : Nat} {l : List (FO P J)} (_ : GG P ty cx k l) : Live (GF l) := lookF_live (gam_lv l)
theorem GG.f {P : Program} {J : Inv} {ty : TypeId → Option TyE} {cx : Cx} {k : Nat} {l : List (FO P J)} (G : GG P ty cx k l) (F : FO P J) : GG P ty cx k (F :: l) := ⟨G.t, G.hL, G.hJ⟩

def cellsE : D → List D
 | .agg l => l
 | d => [d]
class BxE (α : Type) [Enc α] : Prop where
 inj : ∀ x y : α, cellsE (Enc.e x) = cellsE (Enc.e y) → x = y
instance : BxE Int := ⟨fun x y h => Enc.inj _ _ (by simpa [cellsE, Enc.e] using h)⟩
instance : BxE Bool := ⟨fun x y h => Enc.inj _ _ (by simpa [cellsE, Enc.e] using h)⟩
instance : BxE UInt8 := ⟨fun x y h => Enc.inj _ _ (by simpa [cellsE, Enc.e] using h)⟩
instance : BxE ByteArray := ⟨fun x y h => Enc.inj _ _ (by simpa [cellsE, Enc.e] using h)⟩
instance {k : IntKind} : BxE (IK k) := ⟨fun x y h => Enc.inj _ _ (by simpa [cellsE, Enc.e] using h)⟩
instance {α : Type} [Enc α] : BxE (List α) := ⟨fun x y h => Enc.inj _ _ (by
 have h2 : [Enc.e x] = [Enc.e y] := h
 exact List.head_eq_of_cons_eq h2)⟩
abbrev dV {α : Type} [Enc α] (x : α) : AV := .dat (Enc.e x)
abbrev kV (k : IntKind) (x : Int) : AV := .dat (.sc (.int k x))
abbrev bxO (T : Nat) {α : Type} [Enc α] (x : α) : Obj' := .box T ((cellsE (Enc.e x)).map .dat)
abbrev arO (E : Nat) {α : Type} [Enc α] (l : List α) : Obj' := .arr E (Enc.sz α) (List.map Enc.e l)
abbrev taO (E : Nat) {α : Type} [Enc α] (mask : List (Option TypeId)) (l : List α) : Obj' := .tab E (Enc.sz α) mask (List.map Enc.e l) 0 none
abbrev bX (o T : Nat) (l : List AV) : Nat × Option Obj' := (o, some (.box T l))
abbrev aX (o E : Nat) {α : Type} [Enc α] (l : List α) : Nat × Option Obj' := (o, some (.arr E (Enc.sz α) (List.map Enc.e l)))
abbrev tX (o E : Nat) {α : Type} [Enc α] (mask : List (Option TypeId)) (l : List α) (g : Nat) (hole : Option (Nat × Nat)) : Nat × Option Obj' := (o, some (.tab E (Enc.sz α) mask (List.map Enc.e l) g hole))

structure Nl (α : Type) where
 l : List α
def nlE {α : Type} [Enc α] : List α → D
 | [] => .sc (.slice none 0 0)
 | x :: l => .sl (Enc.sz α) (List.map Enc.e (x :: l))
instance encNl {α : Type} [Enc α] : Enc (Nl α) := ⟨1, fun x => nlE x.l, fun a b h => by
 obtain ⟨a⟩ := a
 obtain ⟨b⟩ := b
 have h : nlE a = nlE b := h
 cases a with
 | nil => cases b with
  | nil => rfl
  | cons y b => cases h
 | cons x a => cases b with
  | nil => cases h
  | cons y b =>
   have h2 : Enc.e (x :: a) = Enc.e (y :: b) := h
   rw [Enc.inj _ _ h2]⟩
def nlsp {α β : Type} (r : Nl α) (u : Option β) (v : α → List α → Option β) : Option β := match r.l with
 | [] => u
 | x :: l => v x l
def bytS (l : List UInt8) : ByteArray := ⟨l.toArray⟩
structure Par (α : Type) where
 lend : List Pt
 d : α → List D
 o : α → List Obj'
 no : Nat
 nl : Nat
 lo : ∀ x, (o x).length = no
 ld : ∀ x, (d x).length = lend.length
 le : Nat.ble nl no = true
 inj : ∀ x y, d x = d y → o x = o y → x = y
def Par.r {α : Type} [Enc α] : Par α := ⟨[.rd], fun x => [Enc.e x], fun _ => [], 0, 0, fun _ => rfl, fun _ => rfl, rfl, fun x y h _ => Enc.inj x y (by simpa using h)⟩
def Par.b (T : Nat) {α : Type} [Enc α] [BxE α] : Par α := ⟨[.bx], fun _ => [.sc undef], fun x => [bxO T x], 1, 1, fun _ => rfl, fun _ => rfl, rfl, fun x y _ h => BxE.inj x y (by
 simp only [List.cons.injEq, Obj'.box.injEq, and_true, true_and] at h
 exact (List.map_inj_right (fun a b h => by cases h; rfl)).1 h)⟩
def Par.s (E : Nat) {α : Type} [Enc α] : Par (List α) := ⟨[.sl], fun _ => [.sc undef], fun x => [arO E x], 1, 1, fun _ => rfl, fun _ => rfl, rfl, fun x y _ h => (by
 simp only [List.cons.injEq, Obj'.arr.injEq, and_true, true_and] at h
 exact (List.map_inj_right (fun a b => Enc.inj a b)).1 h)⟩
def Par.t (E : Nat) (mask : List (Option TypeId)) {α : Type} [Enc α] : Par (List α) := ⟨[.sl], fun _ => [.sc undef], fun x => [taO E mask x], 1, 1, fun _ => rfl, fun _ => rfl, rfl, fun x y _ h => (by
 simp only [List.cons.injEq, Obj'.tab.injEq, and_true, true_and] at h
 exact (List.map_inj_right (fun a b => Enc.inj a b)).1 h)⟩
def Par.m (E : Nat) {α : Type} [Enc α] : Par (List α) := ⟨[.sl], fun _ => [.sc undef], fun x => [arO E x], 1, 0, fun _ => rfl, fun _ => rfl, rfl, fun x y _ h => (by
 simp only [List.cons.injEq, Obj'.arr.injEq, and_true, true_and] at h
 exact (List.map_inj_right (fun a b => Enc.inj a b)).1 h)⟩
def Par.zi : Par Int := ⟨[.zr, .rd], fun x => [.sc (.slice none 0 0), Enc.e x], fun _ => [], 0, 0, fun _ => rfl, fun _ => rfl, rfl, fun x y h _ => Enc.inj x y (by simpa using h)⟩
def Par.u : Par Unit := ⟨[], fun _ => [], fun _ => [], 0, 0, fun _ => rfl, fun _ => rfl, rfl, fun _ _ _ _ => rfl⟩
def Par.x {α β : Type} (p : Par α) (q : Par β) : Par (α × β) :=
 ⟨p.lend ++ q.lend, fun x => p.d x.1 ++ q.d x.2, fun x => p.o x.1 ++ q.o x.2, p.no + q.no, p.nl + q.nl, fun x => by rw [List.length_append, p.lo, q.lo], fun x => by rw [List.length_append, List.length_append, p.ld, q.ld], Nat.ble_eq_true_of_le (Nat.add_le_add (Nat.le_of_ble_eq_true p.le) (Nat.le_of_ble_eq_true q.le)), by
  rintro ⟨a, b⟩ ⟨a', b'⟩ h1 h2
  obtain ⟨h3, h4⟩ := List.append_inj h1 (by rw [p.ld, p.ld])
  obtain ⟨h5, h6⟩ := List.append_inj h2 (by rw [p.lo, p.lo])
  exact Prod.ext (p.inj _ _ h3 h5) (q.inj _ _ h4 h6)⟩
structure MS (α β : Type) where
 p : Par α
 m : α → Option β
 r : β → AV
 n : β → List Obj'
 o : α → β → List Obj'
section
variable {α β : Type}
def MS.S (M : MS α β) : FnSpec := modS M.p.lend M.p.d M.p.o M.m M.r M.n M.o
theorem MS.lv {M : MS α β} : LiveS M.S := modS_live
abbrev MS.C (M : MS α β) (x : α) (y : β) : Prop := CallOK M.S (M.p.d x) (M.p.o x) (M.r y) (M.n y) (M.o x y)
theorem MS.c (M : MS α β) (x : α) {y : β} (h : M.m x = some y) : M.C x y := modS_call M.p.inj h
def fo {P : Program} {J : Inv} {f : Nat} {M : MS α β} (h : FnOK P J f M.S) : FO P J := ⟨f, M.S, h, M.lv⟩
end
end Go.Ab
