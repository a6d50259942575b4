/- My own layer: slices.Compact of structs, walked once for every program and every numbering. -/
import Derived.Test.YtmmffjenpfeapaaGreatAbIns
import Derived.Test.YtmmffjenpfeapaaGreatAbDel
import Derived.Shelf.SlBodiesN
import Derived.Shelf.SlGeneric
import Derived.Shelf.RegionOpenPlain
import Derived.WalkKit
import Derived.Deep.LoopGhost
import Derived.Deep.Draws
import Derived.Lib.Walk
import Derived.Sort.WalkB12
set_option linter.unusedVariables false
set_option linter.unusedSimpArgs false
namespace Go.Ab
set_option linter.unusedVariables false
set_option linter.unusedSimpArgs false
open Go.Shelf Go.RowKit Go.Lib Go.Proofs Go.Sort
variable {P : Program} {J : Inv} {ρ : Ren}

section
variable {β : Type}
def cmF (q : β -> β -> Bool) : β -> List β -> List β
 | _, [] => []
 | p, y :: l => if q y p = true then cmF q y l else y :: cmF q y l
def cmL (q : β -> β -> Bool) : List β -> List β
 | [] => []
 | x :: l => x :: cmF q x l
theorem jng {q : β -> β -> Bool} : ∀ {l : List β} {x y p : β}, (x :: l)[l.length]? = some p -> cmF q x (l ++ [y]) = cmF q x l ++ if q y p = true then [] else [y]
 | [], x, y, p, h => by
  simp only [List.length_nil, List.getElem?_cons_zero, Option.some.injEq] at h
  subst h
  simp only [List.nil_append, cmF]
 | a :: l, x, y, p, h => by
  have h' : (a :: l)[l.length]? = some p := by simpa using h
  have ih := jng (q := q) (y := y) h'
  simp only [List.cons_append, cmF, ih]
  split <;> simp
theorem jfu {q : β -> β -> Bool} {d : List β} {i : Nat} {y p : β} (hi : 1 <= i) (hy : d[i]? = some y) (hp : d[i - 1]? = some p) : cmL q (d.take (i + 1)) = cmL q (d.take i) ++ if q y p = true then [] else [y] := by
 obtain ⟨k, rfl⟩ : ∃ k, i = k + 1 := ⟨i - 1, by omega⟩
 cases d with
 | nil => simp at hy
 | cons x d =>
  have hlt : k < d.length := (List.getElem?_eq_some_iff.1 (show d[k]? = some y by simpa using hy)).1
  have hl : (d.take k).length = k := by rw [List.length_take]; omega
  rw [List.take_succ_cons, List.take_succ_cons, List.take_add_one, show d[k]? = some y by simpa using hy]
  simp only [cmL, Option.toList_some]
  rw [jng (p := p) (by rw [hl]; simp only [Nat.add_sub_cancel] at hp; rw [<- hp]; cases k with | zero => rfl | succ k => simp only [List.getElem?_cons_succ]; rw [List.getElem?_take_of_lt (by omega)])]
  rfl
theorem jqt {q : β -> β -> Bool} : ∀ {l : List β} {x : β}, (cmF q x l).length <= l.length
 | [], _ => Nat.le_refl _
 | a :: l, x => by
  have := jqt (q := q) (l := l) (x := a)
  simp only [cmF]
  split <;> simp <;> omega
theorem jqr {q : β -> β -> Bool} {l : List β} : (cmL q l).length <= l.length := by
 cases l with
 | nil => exact Nat.le_refl _
 | cons a l => have := jqt (q := q) (l := l) (x := a); simp [cmL]; omega
theorem jl9 {q : β -> β -> Bool} : ∀ {l : List β} {x z : β}, z ∈ cmF q x l -> z ∈ l
 | [], _, z, h => h
 | a :: l, x, z, h => by
  simp only [cmF] at h
  split at h
  ·exact List.mem_cons_of_mem _ (jl9 h)
  ·rcases List.mem_cons.1 h with h | h
   ·rw [h]; exact List.mem_cons_self ..
   ·exact List.mem_cons_of_mem _ (jl9 h)
theorem jl8 {q : β -> β -> Bool} {l : List β} {z : β} (h : z ∈ cmL q l) : z ∈ l := by
 cases l with
 | nil => exact h
 | cons a l =>
  rcases List.mem_cons.1 h with h | h
  ·rw [h]; exact List.mem_cons_self ..
  ·exact List.mem_cons_of_mem _ (jl9 h)
theorem jqs {γ : Type} {q : γ -> γ -> Bool} {f : β -> γ} : ∀ {l : List β} {x : β}, (cmF (fun a b => q (f a) (f b)) x l).map f = cmF q (f x) (l.map f)
 | [], _ => rfl
 | a :: l, x => by
  have ih := jqs (q := q) (f := f) (l := l) (x := a)
  simp only [cmF, List.map_cons]
  split
  ·exact ih
  ·rw [List.map_cons, ih]
theorem jtn {γ : Type} {q : γ -> γ -> Bool} {f : β -> γ} {l : List β} : (cmL (fun a b => q (f a) (f b)) l).map f = cmL q (l.map f) := by
 cases l with
 | nil => rfl
 | cons a l => simp only [cmL, List.map_cons, jqs]
end

def jcn (w : World) (b off es : Nat) (tb : TypeId) (N : Nat) (l : List (List Value)) (wr : World) : Prop :=
 w.grownBy wr (some b) /\ ∃ row : Array Value, wr.heap[b]? = some (.cells row tb (0, 0)) /\ row.size = N /\ off + l.length * es <= N /\ (row.toList.drop off).take (l.length * es) = l.flatten

theorem jqb {es : Nat} : ∀ {l : List (List Value)} {k : Nat} {c : List Value}, (∀ c ∈ l, c.length = es) -> l[k]? = some c -> (l.flatten.drop (k * es)).take es = c
 | [], k, c, _, h => by simp at h
 | a :: l, 0, c, hl, h => by
  simp at h; subst h
  have := hl a (List.mem_cons_self ..)
  rw [List.flatten_cons, Nat.zero_mul, List.drop_zero, <- this, List.take_left']
  rfl
 | a :: l, k + 1, c, hl, h => by
  have e := hl a (List.mem_cons_self ..)
  have ih := jqb (l := l) (k := k) (c := c) (fun c hc => hl c (List.mem_cons_of_mem _ hc)) (by simpa using h)
  rw [List.flatten_cons, show (k + 1) * es = a.length + k * es by rw [e, Nat.add_mul]; omega, List.drop_length_add_append]
  exact ih
theorem jev {es : Nat} : ∀ {l : List (List Value)}, (∀ c ∈ l, c.length = es) -> l.flatten.length = l.length * es
 | [], _ => by simp
 | a :: l, hl => by
  have e := hl a (List.mem_cons_self ..)
  rw [List.flatten_cons, List.length_append, jev fun c hc => hl c (List.mem_cons_of_mem _ hc), e, List.length_cons, Nat.add_mul]; omega

theorem jcn.drew {w : World} {b off es : Nat} {tb : TypeId} {N : Nat} {l : List (List Value)} {wr : World} (h : jcn w b off es tb N l wr) : jcn w b off es tb N l wr.drew :=
 ⟨⟨h.1.os, h.1.tape, h.1.output, h.1.size, h.1.block⟩, h.2⟩
theorem jcn.cells {w : World} {b off es : Nat} {tb : TypeId} {N : Nat} {l : List (List Value)} {wr : World} (h : jcn w b off es tb N l wr) (hl : ∀ c ∈ l, c.length = es) {k : Nat} {c : List Value} (hk : l[k]? = some c) :
  ∀ j u, c[j]? = some u -> wr.cell? ⟨b, off + k * es + j, none⟩ = some u := by
 obtain ⟨_, row, hr, hN, hfit, ht⟩ := h
 intro j u hj
 rw [cell_of_row wr b _ row tb (0, 0) hr]
 have hc := jqb hl hk
 have hcl := hl c (List.mem_of_getElem? hk)
 have hjl : j < c.length := (List.getElem?_eq_some_iff.1 hj).1
 have hkl : k < l.length := (List.getElem?_eq_some_iff.1 hk).1
 have hm : k * es + es <= l.length * es := by rw [<- Nat.succ_mul]; exact Nat.mul_le_mul_right _ hkl
 rw [<- hc, <- ht, List.getElem?_take_of_lt (by omega), List.getElem?_drop, List.getElem?_take_of_lt (by omega), List.getElem?_drop, Array.getElem?_toList] at hj
 rw [<- hj]; congr 1; omega
theorem jcn.store {w : World} {b off es : Nat} {tb : TypeId} {N : Nat} {l : List (List Value)} {wr : World} (h : jcn w b off es tb N l wr) (hl : ∀ c ∈ l, c.length = es) {T : TypeId} {x : TyE} (tok : TyOK P T x) (hs : x.size = es) {k : Nat} {c : List Value} (hk : k < l.length) (hc : c.length = es) (h1 : ∀ v ∈ c, v.oneCell' = true) :
  ∃ wr', (storeVar T ⟨b, off + k * es, none⟩ (.agg c.toArray)).run P wr = .ok () wr' /\ jcn w b off es tb N (l.set k c) wr' := by
 obtain ⟨hg, row, hr, hN, hfit, ht⟩ := h
 have hm : k * es + es <= l.length * es := by rw [<- Nat.succ_mul]; exact Nat.mul_le_mul_right _ hk
 have hrl : row.toList.length = N := by rw [Array.length_toList, hN]
 have hst := run_storeCells_at (P := P) b (off + k * es) tb c 0 row wr hr (by omega) h1
 simp only [Nat.add_zero] at hst
 refine ⟨wr.setRow b (List.take (off + k * es) row.toList ++ c ++ List.drop (off + k * es + c.length) row.toList).toArray, ?_, ⟨⟨hg.os, hg.tape, hg.output, ?_, fun j hj hjb => ?_⟩, _, setRow_heap wr b row _ tb (0, 0) hr, ?_, by rw [List.length_set]; exact hfit, ?_⟩⟩
 ·simp only [storeVar, Sem.run_bind, Value.cells, List.size_toArray, jaj tok, Result.andThen_ok, hc, hs, ne_eq, not_true_eq_false, if_false]
  rw [hc] at hst
  exact hst
 ·exact Nat.le_trans hg.size (Nat.le_of_eq (by show wr.heap.size = (wr.heap.modify b _).size; rw [Array.size_modify]))
 ·rw [setRow_other wr b j _ (fun e => hjb (by rw [e]))]; exact hg.block j hj hjb
 ·simp only [List.size_toArray, List.length_append, List.length_take, List.length_drop, hrl]; omega
 ·rw [List.length_set]
  have e1 : (row.toList.take (off + k * es)) = row.toList.take off ++ (l.take k).flatten := by
   rw [List.take_add]
   congr 1
   have : (row.toList.drop off).take (k * es) = (l.flatten).take (k * es) := by rw [<- ht, List.take_take, Nat.min_eq_left (by omega)]
   rw [this]
   have e2 : l.flatten = (l.take k).flatten ++ (l.drop k).flatten := by rw [<- List.flatten_append, List.take_append_drop]
   rw [e2]
   refine List.take_left' ?_
   rw [jev (es := es) fun c hc => hl c (List.mem_of_mem_take hc), List.length_take]
   congr 1; omega
  have e3 : (row.toList.drop (off + k * es + c.length)).take (l.length * es - (k * es + es)) = (l.drop (k + 1)).flatten := by
   have : (row.toList.drop (off + k * es + c.length)) = (row.toList.drop off).drop (k * es + es) := by rw [List.drop_drop]; congr 1; omega
   rw [this, <- List.drop_take, ht]
   have e2 : l.flatten = (l.take (k + 1)).flatten ++ (l.drop (k + 1)).flatten := by rw [<- List.flatten_append, List.take_append_drop]
   rw [e2]
   refine List.drop_left' ?_
   rw [jev (es := es) fun c hc => hl c (List.mem_of_mem_take hc), List.length_take, Nat.min_eq_left (by omega), Nat.add_mul]; omega
  have e4 : (row.toList.take off).length = off := by rw [List.length_take]; omega
  have e5 : ((l.take k).flatten ++ c).length = k * es + es := by
   rw [List.length_append, jev (es := es) fun c hc => hl c (List.mem_of_mem_take hc), List.length_take, Nat.min_eq_left (by omega), hc]
  have e6 : l.set k c = l.take k ++ c :: l.drop (k + 1) := List.set_eq_take_append_cons_drop .. |>.trans (if_pos hk)
  simp only [e1, List.append_assoc]
  rw [List.drop_left' e4, <- List.append_assoc, List.take_append, e5, e3, List.take_of_length_le (by rw [e5]; omega), e6, List.flatten_append, List.flatten_cons, List.append_assoc]
theorem jcn.clear {w : World} {b off es : Nat} {tb : TypeId} {N : Nat} {l : List (List Value)} {wr : World} (h : jcn w b off es tb N l wr) (hl : ∀ c ∈ l, c.length = es) {T E : TypeId} {z : Value} (ht : P.underlying T = some (.slice E)) (hv : ∀ w, (zeroValue E).run P w = .ok z w) (hzs : z.cells.size = es) (hz1 : z.cells.toList.all one = true) {k m c : Nat} (hk : k < l.length) (hm : m = l.length - k) :
  ∃ wr', (∀ ty, (Builtin.clear_ #[T] ty #[.slice (some ⟨b, off + k * es, none⟩) m c]).run P wr = .ok (.tuple #[]) wr') /\ jcn w b off es tb N (l.take k) wr' := by
 subst hm
 obtain ⟨hg, row, hr, hN, hfit, hft⟩ := h
 have hzone : ∀ k, ∀ u ∈ (Builtin.zeroCells z.cells k).toList, u.oneCell' = true := fun k u hu => by
  rw [je3]
  have : u ∈ z.cells.toList := jml hu
  exact List.all_eq_true.1 hz1 u this
 have hmul : (l.length - k) * es = l.length * es - k * es := Nat.sub_mul ..
 have hle : k * es <= l.length * es := Nat.mul_le_mul_right _ (by omega)
 have hrl : row.toList.length = N := by rw [Array.length_toList, hN]
 have hlk : (l.take k).length = k := by rw [List.length_take]; omega
 have hrun := fun ty => jgd (P := P) wr T E ty z ht hv (hzone 1) hzone b (off + k * es) (l.length - k) c (by omega) row tb hr (by rw [hzs, hmul, hN]; omega)
 refine ⟨_, hrun, ⟨⟨hg.os, hg.tape, hg.output, ?_, fun j hj hjb => ?_⟩, _, setRow_heap wr b row _ tb (0, 0) hr, ?_, ?_, ?_⟩⟩
 ·exact Nat.le_trans hg.size (Nat.le_of_eq (by show wr.heap.size = (wr.heap.modify b _).size; rw [Array.size_modify]))
 ·rw [setRow_other wr b j _ (fun e => hjb (by rw [e]))]; exact hg.block j hj hjb
 ·simp only [List.size_toArray, List.length_append, List.length_take, List.length_drop, hrl, Array.length_toList, size_zeroCells, hzs, hmul]; omega
 ·rw [hlk]; omega
 ·rw [hlk, List.append_assoc]
  have e1 : (row.toList.take (off + k * es)).length = off + k * es := by rw [List.length_take]; omega
  rw [List.drop_append_of_le_length (by rw [e1]; omega), List.take_append_of_le_length (by rw [List.length_drop, e1]; omega), List.drop_take, List.take_take, show min (k * es) (off + k * es - off) = k * es by omega]
  have : (row.toList.drop off).take (k * es) = (l.flatten).take (k * es) := by rw [<- hft, List.take_take, Nat.min_eq_left (by omega)]
  rw [this]
  have e2 : l.flatten = (l.take k).flatten ++ (l.drop k).flatten := by rw [<- List.flatten_append, List.take_append_drop]
  rw [e2]
  refine List.take_left' ?_
  rw [jev (es := es) fun c hc => hl c (List.mem_of_mem_take hc), hlk]
theorem jcn.loadC {w : World} {b off es : Nat} {tb : TypeId} {N : Nat} {l : List (List Value)} {wr : World} (h : jcn w b off es tb N l wr) (hl : ∀ c ∈ l, c.length = es) {k : Nat} {c : List Value} (hk : l[k]? = some c) :
  (loadCellsFrom ⟨b, off + k * es, none⟩ 0 es #[]).run P wr = .ok c.toArray wr := by
 have := run_loadCells_list (P := P) wr ⟨b, off + k * es, none⟩ c (fun j v hj => by rw [Addr.add_lit]; exact h.cells hl hk j v hj)
 rw [hl c (List.mem_of_getElem? hk)] at this
 exact this
theorem jcn.storeC {w : World} {b off es : Nat} {tb : TypeId} {N : Nat} {l : List (List Value)} {wr : World} (h : jcn w b off es tb N l wr) (hl : ∀ c ∈ l, c.length = es) {T : TypeId} {x : TyE} (tok : TyOK P T x) (hs : x.size = es) {k : Nat} {c : List Value} (hk : k < l.length) (hc : c.length = es) (h1 : ∀ v ∈ c, v.oneCell' = true) :
  ∃ wr', (storeCells ⟨b, off + k * es, none⟩ c.toArray.toList).run P wr = .ok () wr' /\ jcn w b off es tb N (l.set k c) wr' := by
 obtain ⟨wr', h1, h2⟩ := h.store hl tok hs hk hc h1
 refine ⟨wr', ?_, h2⟩
 simp only [storeVar, Sem.run_bind, Value.cells, List.size_toArray, jaj tok, Result.andThen_ok, hc, hs, ne_eq, not_true_eq_false, if_false] at h1
 exact h1
structure CmpL (P : Program) (ρ : Ren) (x : TyE) (es : Nat) : Prop where
 mixed : P.follows .mixedOrders = true
 t0 : P.underlying (ρ.t 0) = some (TypeDesc.tuple #[])
 a0 : ∀ w, (isAgg (ρ.t 0)).run P w = .ok false w
 z0 : ∀ w, (Go.sizeOf (ρ.t 0)).run P w = .ok 1 w
 v0 : ∀ w, (zeroValue (ρ.t 0)).run P w = .ok (Value.tuple #[]) w
 t3 : P.underlying (ρ.t 3) = some (TypeDesc.int IntKind.i64)
 a3 : ∀ w, (isAgg (ρ.t 3)).run P w = .ok false w
 z3 : ∀ w, (Go.sizeOf (ρ.t 3)).run P w = .ok 1 w
 v3 : ∀ w, (zeroValue (ρ.t 3)).run P w = .ok (Value.int IntKind.i64 0) w
 t4 : P.underlying (ρ.t 4) = some (TypeDesc.bool)
 a4 : ∀ w, (isAgg (ρ.t 4)).run P w = .ok false w
 z4 : ∀ w, (Go.sizeOf (ρ.t 4)).run P w = .ok 1 w
 v4 : ∀ w, (zeroValue (ρ.t 4)).run P w = .ok (Value.bool false) w
 t22 : P.underlying (ρ.t 22) = some (TypeDesc.slice (ρ.t 23))
 a22 : ∀ w, (isAgg (ρ.t 22)).run P w = .ok false w
 z22 : ∀ w, (Go.sizeOf (ρ.t 22)).run P w = .ok 1 w
 v22 : ∀ w, (zeroValue (ρ.t 22)).run P w = .ok (Value.slice none 0 0) w
 tok : TyOK P (ρ.t 23) x
 agg : x.isAgg = true
 size : x.size = es
 pos : 0 < es
 zs : x.zero.cells.size = es
 z1 : x.zero.cells.toList.all one = true

set_option maxHeartbeats 4000000 in
set_option maxRecDepth 1000000 in
theorem jtm {x : TyE} {es : Nat} (L : CmpL P ρ x es) {nm : String} (hF : P.funcs[ρ.f 43]? = some { SlBodyN.n43 ρ with name := nm }) {β : Type} (q : β -> β -> Bool) (C : β -> List Value) (b off cap : Nat) (tb : TypeId) (N n : Nat) (ps : List β) (hn : ps.length = n) (w : World)
  (heq : ∀ u ∈ ps, ∀ v ∈ ps, ∀ w, (binOp .eql (ρ.t 23) (.agg (C u).toArray) (.agg (C v).toArray)).run P w = .ok (.bool (q u v)) w)
  (hne : ∀ u ∈ ps, ∀ v ∈ ps, ∀ w, (binOp .neq (ρ.t 23) (.agg (C u).toArray) (.agg (C v).toArray)).run P w = .ok (.bool (!q u v)) w)
  (hgd : ∀ u ∈ ps, ∀ v ∈ ps, ∀ op a b w, (eqGuard op (ρ.t 23) a b (.agg (C u).toArray) (.agg (C v).toArray)).run P w = .ok () w)
  (hl : ∀ u ∈ ps, (C u).length = es /\ ∀ v ∈ C u, v.oneCell' = true) (h : jcn w b off es tb N (ps.map C) w) (hsz : n <= 9223372036854775807) (hcap : n <= cap) :
  Calls P (ρ.f 43) #[.slice (some ⟨b, off, none⟩) n cap] w fun e w' => e = .returned (.slice (some ⟨b, off, none⟩) (cmL q ps).length cap) /\ jcn w b off es tb N ((cmL q ps).map C) w' := by
 have mixed := L.mixed; have t0 := L.t0; have a0 := L.a0; have z0 := L.z0; have v0 := L.v0; have t3 := L.t3; have a3 := L.a3; have z3 := L.z3; have v3 := L.v3; have t4 := L.t4; have a4 := L.a4; have z4 := L.z4; have v4 := L.v4; have t22 := L.t22; have a22 := L.a22; have z22 := L.z22; have v22 := L.v22
 have z23 : ∀ w, (Go.sizeOf (ρ.t 23)).run P w = .ok es w := fun w => by rw [<- L.size]; exact jaj L.tok
 have a23 : ∀ w, (isAgg (ρ.t 23)).run P w = .ok true w := fun w => by rw [<- L.agg]; exact jat L.tok
 have HQ : Aside ((∀ u ∈ ps, ∀ v ∈ ps, ∀ w, (binOp .eql (ρ.t 23) (.agg (C u).toArray) (.agg (C v).toArray)).run P w = .ok (.bool (q u v)) w) /\ (∀ u ∈ ps, ∀ v ∈ ps, ∀ w, (binOp .neq (ρ.t 23) (.agg (C u).toArray) (.agg (C v).toArray)).run P w = .ok (.bool (!q u v)) w) /\ (∀ u ∈ ps, ∀ v ∈ ps, ∀ op a b w, (eqGuard op (ρ.t 23) a b (.agg (C u).toArray) (.agg (C v).toArray)).run P w = .ok () w) /\ (∀ u ∈ ps, (C u).length = es /\ ∀ v ∈ C u, v.oneCell' = true) /\ ps.length = n) := ⟨heq, hne, hgd, hl, hn⟩
 have HR : Aside (jcn w b off es tb N (ps.map C) w) := h
 clear heq hne hgd hl h hn
 by_cases h2 : n < 2
 ·go_enter hF, SlBodyN.n43_ntmps ρ
  go_wp2
  go_ret
  have e : cmL q ps = ps := by
   have hn := HQ.out.2.2.2.2
   match ps, hn with
   | [], _ => rfl
   | [a], _ => rfl
   | a :: c :: l, hn => simp at hn; omega
  rw [e, HQ.out.2.2.2.2]
  exact ⟨rfl, HR.out⟩
 ·go_enter hF, SlBodyN.n43_ntmps ρ
  go_wp2
  go_loopg [3] n (fun g s3 wr => ∃ k : Nat, 1 <= k /\ k <= n /\ n - k <= g /\ s3 = .int .i64 k /\ jcn w b off es tb N (ps.map C) wr /\ cmL q (ps.take k) = ps.take k)
  case atStart =>
   refine ⟨1, Nat.le_refl _, by omega, by omega, rfl, HR.out, ?_⟩
   cases ps with
   | nil => rfl
   | cons a l => rfl
  case round =>
   obtain ⟨k, hk1, hk, hg, rfl, hR, hall⟩ := hrel
   by_cases hlt : k < n
   ·have H := HQ.out
    obtain ⟨Q1, Q2, Q3, Q4, Q5⟩ := H
    obtain ⟨u, hu⟩ : ∃ u, ps[k]? = some u := ⟨_, List.getElem?_eq_getElem (by omega)⟩
    obtain ⟨v, hv⟩ : ∃ v, ps[k - 1]? = some v := ⟨_, List.getElem?_eq_getElem (by omega)⟩
    have hlm : ∀ c ∈ ps.map C, c.length = es := fun c hc => by obtain ⟨y, hy, rfl⟩ := List.mem_map.1 hc; exact (Q4 y hy).1
    have l1 := hR.drew.loadC (P := P) hlm (k := k) (c := C u) (by rw [List.getElem?_map, hu]; rfl)
    have l2 := hR.drew.loadC (P := P) hlm (k := k - 1) (c := C v) (by rw [List.getElem?_map, hv]; rfl)
    have e1 := Q1 u (List.mem_of_getElem? hu) v (List.mem_of_getElem? hv)
    have e3 := Q3 u (List.mem_of_getElem? hu) v (List.mem_of_getElem? hv)
    generalize (C u).toArray = U at l1 e1 e3
    generalize (C v).toArray = V at l2 e1 e3
    have B : Aside (ps[k]? = some u /\ ps[k - 1]? = some v /\ jcn w b off es tb N (ps.map C) wr /\ cmL q (ps.take k) = ps.take k) := ⟨hu, hv, hR, hall⟩
    clear hlm Q1 Q2 Q3 Q4 Q5 hu hv hR hall
    by_cases hdup : q u v = true
    ·rw [hdup] at e1
     go_wp2_with fail
     go_region_o
     go_wp2
     clear l1 l2 e1 e3
     go_loopg [3, 5] n (fun g s3 s5 wr => ∃ (kk k2 : Nat), s3 = .int .i64 kk /\ s5 = .int .i64 k2 /\ 1 <= k2 /\ k + k2 <= n /\ n - (k + k2) <= g /\ kk = (cmL q (ps.take (k + k2))).length /\ kk < k + k2 /\ jcn w b off es tb N ((cmL q (ps.take (k + k2)) ++ ps.drop kk).map C) wr)
     case atStart =>
      have hc : cmL q (ps.take (k + 1)) = ps.take k := by
       rw [jfu hk1 B.out.1 B.out.2.1, B.out.2.2.2, hdup]; simp
      have hkl : (cmL q (ps.take (k + 1))).length = k := by rw [hc, List.length_take, HQ.out.2.2.2.2]; omega
      refine ⟨k, 1, rfl, rfl, Nat.le_refl _, by omega, by omega, hkl.symm, by omega, ?_⟩
      rw [hc, List.take_append_drop]
      exact B.out.2.2.1.drew
     case round =>
      obtain ⟨kk, k2, rfl, rfl, h1, hle, hg2, hkl, hkk, hR⟩ := hrel
      have H := HQ.out
      obtain ⟨Q1, Q2, Q3, Q4, Q5⟩ := H
      have hlm : ∀ c ∈ (cmL q (ps.take (k + k2)) ++ ps.drop kk).map C, c.length = es := fun c hc => by
       obtain ⟨y, hy, rfl⟩ := List.mem_map.1 hc
       rcases List.mem_append.1 hy with hy | hy
       ·exact (Q4 y (List.mem_of_mem_take (jl8 hy))).1
       ·exact (Q4 y (List.mem_of_mem_drop hy)).1
      have hat : ∀ j y, kk <= j -> ps[j]? = some y -> ((cmL q (ps.take (k + k2)) ++ ps.drop kk).map C)[j]? = some (C y) := fun j y hj hy => by
       rw [List.getElem?_map, List.getElem?_append_right (by omega), List.getElem?_drop, <- hkl, show kk + (j - kk) = j by omega, hy]; rfl
      have hlen : ((cmL q (ps.take (k + k2)) ++ ps.drop kk).map C).length = n := by rw [List.length_map, List.length_append, List.length_drop, <- hkl, Q5]; omega
      by_cases hlt2 : k + k2 < n
      ·obtain ⟨y, hy⟩ : ∃ u, ps[k + k2]? = some u := ⟨_, List.getElem?_eq_getElem (by omega)⟩
       obtain ⟨z, hz⟩ : ∃ v, ps[k + k2 - 1]? = some v := ⟨_, List.getElem?_eq_getElem (by omega)⟩
       have l1 := hR.drew.loadC (P := P) hlm (hat _ _ (by omega) hy)
       have l2 := hR.drew.loadC (P := P) hlm (hat _ _ (by omega) hz)
       rw [show off + (k + k2) * es = off + k * es + k2 * es by rw [Nat.add_mul]; omega] at l1
       rw [show off + (k + k2 - 1) * es = off + k * es + (k2 - 1) * es by rw [show k + k2 - 1 = k + (k2 - 1) by omega, Nat.add_mul]; omega] at l2
       have e1 := Q2 y (List.mem_of_getElem? hy) z (List.mem_of_getElem? hz)
       have e3 := Q3 y (List.mem_of_getElem? hy) z (List.mem_of_getElem? hz)
       have D : Aside (ps[k + k2]? = some y /\ ps[k + k2 - 1]? = some z /\ kk = (cmL q (ps.take (k + k2))).length /\ jcn w b off es tb N ((cmL q (ps.take (k + k2)) ++ ps.drop kk).map C) wr) := ⟨hy, hz, hkl, hR⟩
       by_cases huv : q y z = true
       ·rw [huv] at e1
        simp only [Bool.not_true] at e1
        generalize (C y).toArray = U at l1 e1 e3
        generalize (C z).toArray = V at l2 e1 e3
        clear Q1 Q2 Q3 Q4 Q5 hy hz hR hlm hat hlen hkl
        go_wp2_with fail
        go_region_o
        go_wp2
        go_roundg (n - (k + (k2 + 1)))
        case measure => omega
        case rel =>
         have hs := jfu (q := q) (by omega) D.out.1 D.out.2.1
         rw [huv, if_pos rfl, List.append_nil] at hs
         exact ⟨kk, k2 + 1, rfl, by go_num, by omega, by omega, Nat.le_refl _, by rw [<- Nat.add_assoc, hs]; exact D.out.2.2.1, by omega, by rw [<- Nat.add_assoc, hs]; exact D.out.2.2.2.drew⟩
       ·have huv : q y z = false := by simpa using huv
        rw [huv] at e1
        simp only [Bool.not_false] at e1
        have hcy := Q4 y (List.mem_of_getElem? hy)
        obtain ⟨wr2, hst, hR2⟩ := hR.drew.storeC (P := P) hlm L.tok L.size (k := kk) (c := C y) (by omega) hcy.1 hcy.2
        have hUs : (C y).toArray.size = es := by simpa using hcy.1
        have hset : ((cmL q (ps.take (k + k2)) ++ ps.drop kk).map C).set kk (C y) = (cmL q (ps.take (k + k2 + 1)) ++ ps.drop (kk + 1)).map C := by
         rw [jfu (by omega) hy hz, huv]
         obtain ⟨d, hd⟩ : ∃ d, ps.drop kk = d :: ps.drop (kk + 1) := ⟨_, List.drop_eq_getElem_cons (by omega)⟩
         have hA : ∀ A T : List (List Value), kk = A.length -> (A ++ C d :: T).set kk (C y) = A ++ C y :: T := by rintro A T rfl; simp
         rw [hd, List.map_append, List.map_cons, hA _ _ (by rw [List.length_map]; exact hkl)]
         simp
        rw [hset] at hR2
        have D2 : Aside (jcn w b off es tb N ((cmL q (ps.take (k + k2 + 1)) ++ ps.drop (kk + 1)).map C) wr2) := hR2
        generalize (C y).toArray = U at l1 e1 e3 hst hUs
        generalize (C z).toArray = V at l2 e1 e3
        clear Q1 Q2 Q3 Q4 Q5 hy hz hR hlm hat hlen hkl hset hcy hR2
        go_wp2_with fail
        go_region_o
        go_wp2
        go_roundg (n - (k + (k2 + 1)))
        case measure => omega
        case rel =>
         have hs := jfu (q := q) (by omega) D.out.1 D.out.2.1
         rw [huv] at hs
         exact ⟨kk + 1, k2 + 1, by go_num, by go_num, by omega, by omega, Nat.le_refl _, by rw [<- Nat.add_assoc, hs, List.length_append, <- D.out.2.2.1]; rfl, by omega, by rw [<- Nat.add_assoc]; exact D2.out⟩
      ·have hend : k + k2 = n := by omega
       have hlk : kk < ((cmL q (ps.take (k + k2)) ++ ps.drop kk).map C).length := by rw [hlen]; omega
       obtain ⟨wr2, hcl, hR2⟩ := hR.clear (P := P) hlm t22 (fun w => jas L.tok w) L.zs L.z1 (k := kk) (m := n - kk) (c := cap - kk) hlk (by rw [hlen])
       have hall : ps.take (k + k2) = ps := List.take_of_length_le (by omega)
       rw [hall] at hR2 hkl
       have D2 : Aside (kk = (cmL q ps).length /\ jcn w b off es tb N ((cmL q ps).map C) wr2) := ⟨hkl, by rw [List.map_append, List.take_left' (by rw [List.length_map, hkl])] at hR2; exact hR2⟩
       clear Q1 Q2 Q3 Q4 Q5 hR hlm hat hlen hkl hR2 hall hlk
       go_wp2
       go_ret
       obtain ⟨d1, d2⟩ := D2.out
       rw [<- d1]
       exact ⟨rfl, d2⟩
    ·have hdup : q u v = false := by simpa using hdup
     rw [hdup] at e1
     go_wp2_with fail
     go_region_o
     go_wp2
     go_roundg (n - (k + 1))
     case measure => omega
     case rel =>
      refine ⟨k + 1, by omega, by omega, Nat.le_refl _, by go_num, B.out.2.2.1.drew, ?_⟩
      rw [jfu hk1 B.out.1 B.out.2.1, B.out.2.2.2, hdup, List.take_add_one, B.out.1]
      rfl
   ·have : k = n := by omega
    subst this
    have B : Aside (jcn w b off es tb N (ps.map C) wr /\ cmL q (ps.take k) = ps.take k) := ⟨hR, hall⟩
    clear hR hall
    go_wp2
    go_ret
    have e := B.out.2
    rw [List.take_of_length_le (by rw [HQ.out.2.2.2.2]; exact Nat.le_refl _)] at e
    rw [e, HQ.out.2.2.2.2]
    exact ⟨rfl, B.out.1⟩
theorem jlt {F F' : Nat -> Prop} {w w' : World} : ∀ {l : List D} {cs : List Value}, (∀ d ∈ l, ∃ v, d = .sc v) -> RC F w l cs -> RC F' w' l cs
 | [], _, _, h => by unfold RC at h ⊢; exact h
 | d :: l, cs, hd, h => by
  unfold RC at h ⊢
  obtain ⟨u, us, rfl, h1, h2, h3⟩ := h
  obtain ⟨v, rfl⟩ := hd d (List.mem_cons_self ..)
  unfold RD at h2
  exact ⟨u, us, rfl, h1, by unfold RD; exact h2, jlt (fun d hd' => hd d (List.mem_cons_of_mem _ hd')) h3⟩
theorem jjd {d : D} (h : jix d) : ∀ c ∈ d.cells, ∃ v, c = .sc v := by
 cases d with
 | sc v => intro c hc; simp only [D.cells, List.mem_singleton] at hc; exact ⟨v, hc⟩
 | agg l => exact h
 | sl _ _ => exact h.elim
theorem jmt {F : Nat -> Prop} {w : World} {es : Nat} {α : Type} [Enc α] : ∀ {a : List α} {us : List Value}, RE F w es (a.map Enc.e) us -> ∃ ps : List (α × List Value), ps.map (·.1) = a /\ (ps.map (·.2)).flatten = us /\ ∀ p ∈ ps, p.2.length = es /\ RC F w (Enc.e p.1).cells p.2
 | [], us, h => by
  have : us = [] := by simpa [RE] using h
  exact ⟨[], rfl, this.symm, fun p hp => by cases hp⟩
 | x :: a, us, h => by
  obtain ⟨u, us2, rfl, h2, h3, h4⟩ := RE.cons h
  obtain ⟨ps, rfl, rfl, h5⟩ := jmt h4
  refine ⟨(x, u) :: ps, rfl, rfl, fun p hp => ?_⟩
  rcases List.mem_cons.1 hp with rfl | hp
  ·exact ⟨h2, h3⟩
  ·exact h5 p hp
theorem jmw {F : Nat -> Prop} {w : World} {es : Nat} {α : Type} [Enc α] : ∀ {ps : List (α × List Value)}, (∀ p ∈ ps, p.2.length = es /\ RC F w (Enc.e p.1).cells p.2) -> RE F w es ((ps.map (·.1)).map Enc.e) (ps.map (·.2)).flatten
 | [], _ => by unfold RE; rfl
 | p :: ps, h => by
  simp only [List.map_cons, List.flatten_cons]
  exact RE.mk (h p (List.mem_cons_self ..)).1 (h p (List.mem_cons_self ..)).2 (jmw fun q hq => h q (List.mem_cons_of_mem _ hq))
theorem jn5 {ty : TypeId -> Option TyE} (hty : ∀ t x, ty t = some x -> TyOK P t x) {F : Nat -> Prop} {w : World} {l l' : List D} {cs cs' : List Value} (cx1 : RC F w l cs) (cy1 : RC F w l' cs') {t : TypeId} {x : TyE} {fs : Array Field} (hT : ty t = some x) (hd : x.desc = .struct fs) (he : x.eq = true) {b : Bool} (hb : eqF ty l l' fs.toList = some b) :
  (binOp .eql t (.agg cs.toArray) (.agg cs'.toArray)).run P w = .ok (.bool b) w /\ (binOp .neq t (.agg cs.toArray) (.agg cs'.toArray)).run P w = .ok (.bool (!b)) w /\ ∀ op y z, (eqGuard op t y z (.agg cs.toArray) (.agg cs'.toArray)).run P w = .ok () w := by
 obtain ⟨hu, i, _, _, _, _, hq⟩ := hty _ _ hT
 obtain ⟨q1, q2, q3⟩ := hq he
 rw [hd] at hu
 have hf : P.fieldsOf t = fs := by simp [Program.fieldsOf, hu]
 have hrun := jf1 (P := P) hty cx1 cy1 9997 fs.toList b (q3 fs hd) hb
 have heq : (Op.equalIn 10000 t (.agg cs.toArray) (.agg cs'.toArray)).run P w = .ok b w := by
  rw [run_equalIn_agg w 9999 t _ _ (by rw [hf]; exact hu) q1, hf]; exact hrun
 refine ⟨?_, ?_, fun op y z => run_eqGuard_agg w op t y z _ _ q2⟩
 ·rw [run_eql_struct, heq]; rfl
 ·rw [run_neq_struct, heq]; rfl

noncomputable def cmpM {α : Type} (q : α -> α -> Bool) (a : List α) : Option (List α) := some (cmL q a)
noncomputable def cmpS (E : TypeId) (α : Type) [Enc α] (q : α -> α -> Bool) : MS (List α) (List α) :=
 ⟨.m E, fun x => cmpM q x, fun _ => .own 0, fun y => [arO E y], fun _ _ => []⟩
theorem jtl {x : TyE} {es : Nat} (L : CmpL P ρ x es) {nm : String} (hF : P.funcs[ρ.f 43]? = some { SlBodyN.n43 ρ with name := nm }) {α : Type} [Enc α] (q : α -> α -> Bool) {F : Nat -> Prop} (w : World) (v0 : Value) (a : List α) (us : List Value) (hE : Nat.ble (ρ.t 23) 4294967295 = true) (h0 : Own w (ρ.t 23) es v0 a.length us) (hre : RE F w es (a.map Enc.e) us)
  (hrun : ∀ u v : α, ∀ cs cs' : List Value, RC F w (Enc.e u).cells cs -> RC F w (Enc.e v).cells cs' -> ∀ w', (binOp .eql (ρ.t 23) (.agg cs.toArray) (.agg cs'.toArray)).run P w' = .ok (.bool (q u v)) w' /\ (binOp .neq (ρ.t 23) (.agg cs.toArray) (.agg cs'.toArray)).run P w' = .ok (.bool (!q u v)) w' /\ ∀ op y z, (eqGuard op (ρ.t 23) y z (.agg cs.toArray) (.agg cs'.toArray)).run P w' = .ok () w') :
  Calls P (ρ.f 43) #[v0] w fun e w' => ∃ v' us', e = .returned v' /\ Own w' (ρ.t 23) es v' (cmL q a).length us' /\ RE F w es ((cmL q a).map Enc.e) us' /\ w.grownBy w' (blk v0) /\ blk v' = blk v0 := by
 obtain ⟨ps, hp1, hp2, hp3⟩ := jmt hre
 have hal : ps.length = a.length := by rw [<- hp1, List.length_map]
 have hcm : (cmL (fun p p' : α × List Value => q p.1 p'.1) ps).map (·.1) = cmL q a := by rw [<- hp1]; exact jtn (f := fun p : α × List Value => p.1)
 by_cases hn : a = []
 ·subst hn
  have mixed := L.mixed; have t0 := L.t0; have a0 := L.a0; have z0 := L.z0; have v0' := L.v0; have t3 := L.t3; have a3 := L.a3; have z3 := L.z3; have v3 := L.v3; have t4 := L.t4; have a4 := L.a4; have z4 := L.z4; have v4 := L.v4; have t22 := L.t22; have a22 := L.a22; have z22 := L.z22; have v22 := L.v22
  obtain ⟨aa, cc, rfl⟩ := Own.slice h0
  have hc : Calls P (ρ.f 43) #[.slice aa (List.length ([] : List α)) cc] w fun e w' => e = .returned (.slice aa 0 cc) /\ w' = w := by
   clear hrun h0 hre hp1 hp2 hp3 hal hcm
   go_enter hF, SlBodyN.n43_ntmps ρ
   go_wp2
   go_ret
   exact ⟨rfl, rfl⟩
  refine Calls.mono hc ?_
  rintro e w' ⟨rfl, rfl⟩
  exact ⟨_, us, rfl, h0, hre, ⟨rfl, rfl, rfl, Nat.le_refl _, fun _ _ _ => rfl⟩, rfl⟩
 rcases h0.2 with ⟨_, hz⟩ | ⟨b, off, c, cur, rfl, ⟨tb, fz0, hg, hzf⟩, hnc, hcm', hfit, htake⟩
 ·exact absurd (List.length_eq_zero_iff.1 hz) hn
 obtain rfl := hzf.low hE
 have hm : a.length * es <= c * es := Nat.mul_le_mul_right _ hnc
 have hR : jcn w b off es tb cur.size (ps.map (·.2)) w := ⟨⟨rfl, rfl, rfl, Nat.le_refl _, fun _ _ _ => rfl⟩, cur, hg, rfl, by rw [List.length_map, hal]; omega, by rw [List.length_map, hal, hp2]; exact htake⟩
 have hcall := jtm L hF (fun p p' : α × List Value => q p.1 p'.1) (·.2) b off c tb cur.size a.length ps hal w
  (fun u hu v hv w' => (hrun _ _ _ _ (hp3 u hu).2 (hp3 v hv).2 w').1) (fun u hu v hv w' => (hrun _ _ _ _ (hp3 u hu).2 (hp3 v hv).2 w').2.1) (fun u hu v hv op y z w' => (hrun _ _ _ _ (hp3 u hu).2 (hp3 v hv).2 w').2.2 op y z)
  (fun u hu => ⟨(hp3 u hu).1, fun v hv => by rw [je3]; exact RC.ones (hp3 u hu).2 v hv⟩) hR (by unfold maxLen at hcm'; omega) hnc
 refine Calls.mono hcall ?_
 rintro e w' ⟨rfl, g1, row, g2, g3, g4, g5⟩
 have hlen : (cmL (fun p p' : α × List Value => q p.1 p'.1) ps).length = (cmL q a).length := by rw [<- hcm, List.length_map]
 have hle : (cmL q a).length <= a.length := jqr
 rw [List.length_map, hlen] at g5
 refine ⟨_, _, rfl, ⟨?_, .inr ⟨b, off, c, row, by rw [hlen], ⟨tb, _, g2, .inl rfl⟩, by omega, hcm', by rw [g3]; exact hfit, g5⟩⟩, ?_, g1, rfl⟩
 ·rw [jev (es := es) fun c hc => by obtain ⟨y, hy, rfl⟩ := List.mem_map.1 hc; exact (hp3 y (jl8 hy)).1, List.length_map, hlen]
 ·rw [<- hcm]
  exact jmw fun p hp => hp3 p (jl8 hp)

theorem jum {ty : TypeId -> Option TyE} (hty : ∀ t x, ty t = some x -> TyOK P t x) {x : TyE} {α : Type} [Enc α] [FlatEnc α] (q : α -> α -> Bool) (L : CmpL P ρ x (Enc.sz α)) (hE : Nat.ble (ρ.t 23) 4294967295 = true) {nm : String} (hc : ∀ args w, (callFunc (ρ.f 43) args).run P w = .ok (.enter (ρ.f 43) args) w) (hF : P.funcs[ρ.f 43]? = some { SlBodyN.n43 ρ with name := nm })
  (hT : ty (ρ.t 23) = some x) {fs : Array Field} (hd : x.desc = .struct fs) (he : x.eq = true) (hq : ∀ u v : α, eqF ty (Enc.e u).cells (Enc.e v).cells fs.toList = some (q u v)) : FnOK P J (ρ.f 43) (cmpS (ρ.t 23) α q).S := by
 refine ⟨hc, ?_⟩
 rintro vs w F ds obs κ ⟨a, y, rfl, rfl, hy⟩ hargs hFl hJ hobs
 have hm : cmpM q a = some y := hy
 unfold cmpM at hm
 cases hm
 have hargs' : RVs κ F w [.own 0] vs := hargs
 unfold RVs at hargs'
 obtain ⟨v0, r1, rfl, k0, hargs'⟩ := hargs'
 unfold RVs at hargs'
 subst hargs'
 unfold RV at k0
 have ho0 := (hobs.ok 0 (arO (ρ.t 23) a) rfl).1
 obtain ⟨us, w0, re0, pos⟩ := (show jbx F w (ρ.t 23) (Enc.sz α) (κ 0).v (a.map Enc.e) from ho0)
 rw [List.length_map] at w0
 have hlt : ∀ b, blk (κ 0).v = some b -> b < w.heap.size /\ ¬ F b := fun b hbk => hobs.blk 0 (arO (ρ.t 23) a) rfl b (.inl hbk)
 have hcall := jtl L hF q w (κ 0).v a us hE w0 re0 (fun u v cs cs' h1 h2 w' => jn5 hty (jlt (F' := F) (w' := w') (jjd (FlatEnc.flat u)) h1) (jlt (F' := F) (w' := w') (jjd (FlatEnc.flat v)) h2) hT hd he (hq u v))
 rw [k0.1]
 refine Calls.mono hcall ?_
 rintro e w' ⟨v', us', rfl, g1, g4, g2, g3⟩
 have hFb : ∀ b, F b -> w'.heap[b]? = w.heap[b]? := fun b hb => g2.block b (hFl b hb) fun e => (hlt b e.symm).2 hb
 refine ⟨v', rfl, jj0 (v0 := (κ 0).v) (E := ρ.t 23) (es := Enc.sz α) (y := (cmL q a).map Enc.e) ⟨a, _, rfl, rfl, hy, rfl, rfl, rfl⟩ hFl g2 (.inl g3) (fun b hbk => ⟨⟨0, _, rfl, .inl hbk⟩, (hlt b hbk).2⟩) ?_ (RE.mono (fun _ h => h) hFb g4) pos⟩
 rw [List.length_map]; exact g1

theorem ju7 {ty : TypeId -> Option TyE} (T : TT P ty) (ρ : Ren) {α : Type} [Enc α] [FlatEnc α] (q : α -> α -> Bool) {x : TyE} {nm : String} (hc : ∀ args w, (callFunc (ρ.f 43) args).run P w = .ok (.enter (ρ.f 43) args) w) (hF : P.funcs[ρ.f 43]? = some { SlBodyN.n43 ρ with name := nm }) {b0 : Nat} {e0 : Bool}
  (o0 : TyOK P (ρ.t 0) ⟨.tuple #[], 1, b0, .tuple #[], e0⟩) (h3 : ty (ρ.t 3) = some ⟨.int .i64, 1, 8, .int .i64 0, false⟩) (h4 : ty (ρ.t 4) = some ⟨.bool, 1, 1, .bool false, false⟩) (h22 : ty (ρ.t 22) = some ⟨.slice (ρ.t 23), 1, 24, .slice none 0 0, false⟩) (h23 : ty (ρ.t 23) = some x)
  {fs : Array Field} (hd : x.desc = .struct fs) (hx : (Nat.beq x.size (Enc.sz α) && Nat.blt 0 x.size && Nat.beq x.zero.cells.size x.size && x.zero.cells.toList.all one && x.eq && x.isAgg) = true) (hq : ∀ u v : α, eqF ty (Enc.e u).cells (Enc.e v).cells fs.toList = some (q u v)) (hE : Nat.ble (ρ.t 23) 4294967295 = true := by rfl) :
  FnOK P J (ρ.f 43) (cmpS (ρ.t 23) α q).S := by
 have o3 := T.ty _ _ h3
 have o4 := T.ty _ _ h4
 have o22 := T.ty _ _ h22
 have o23 := T.ty _ _ h23
 simp only [Bool.and_eq_true] at hx
 obtain ⟨⟨⟨⟨⟨x1, x2⟩, x3⟩, x4⟩, x5⟩, x6⟩ := hx
 have x1 := Nat.eq_of_beq_eq_true x1
 have x3 := Nat.eq_of_beq_eq_true x3
 exact jum T.ty q ⟨T.mx, o0.1, fun w => jat o0, fun w => jaj o0, fun w => jas o0 w, o3.1, fun w => jat o3, fun w => jaj o3, fun w => jas o3 w, o4.1, fun w => jat o4, fun w => jaj o4, fun w => jas o4 w, o22.1, fun w => jat o22, fun w => jaj o22, fun w => jas o22 w, o23, x6, x1, by rw [<- x1]; simpa using x2, by rw [x3, x1], x4⟩ hE hc hF h23 hd x5 hq
end Go.Ab
