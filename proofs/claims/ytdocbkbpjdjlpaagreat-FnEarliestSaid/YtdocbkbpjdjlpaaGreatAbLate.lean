/- My own layer: a search from behind, by a range over slices.Backward: contracts as plain calls; the model. -/
import Derived.Test.YtdocbkbpjdjlpaaGreatAbC
import Derived.RangeFuncBox
import Derived.RangeFuncLeaves
import Derived.RangeFuncWrites
import Derived.OrdersIn
import Derived.TacticsIn
import Derived.Shelf.Abstract
import Derived.WalkKit
import Derived.OwnWalkIn
import Derived.TacticsInMore
import Derived.LoopNIn
import Derived.LoopIn
namespace Go.Ab
set_option linter.unusedVariables false
set_option linter.unusedSimpArgs false
open Go.RowKit
variable {P : Program} {J : Inv}

noncomputable def je3 (A : Int -> Option Int) (by_ : Int) : List Int -> Option (Int × Bool)
 | [] => some (0, false)
 | τ :: l => (A τ).bind fun a => if a <= by_ then some (τ, true) else je3 A by_ l
noncomputable def jsa (isF isS : Option Bool) (from_ to_ : Int) (D : Option (List Int)) (A : Int -> Option Int) (by_ : Int) : Option (Int × Bool) :=
 isF.bind fun r => (if (!r) = true then some true else isS.bind fun r1 => some (!r1)).bind fun v => if v = true then some (0, false) else if (from_ == to_) = true then some (0, false) else
 D.bind fun l => if (l.all fun τ => (A τ).isSome) = true then je3 A by_ l.reverse else none
def jc3 {α : Type} (f : Nat -> α) (k : Nat) : List α := (List.range k).map f
theorem jg6 {α : Type} (f : Nat -> α) (k : Nat) : jc3 f (k + 1) = jc3 f k ++ [f k] := by simp [jc3, List.range_succ]
theorem jjc {α : Type} (f : Nat -> α) (k : Nat) : (jc3 f k).length = k := by simp [jc3]
def jf4 (zs : List Int) (j : Nat) : Int × Int := ((zs.length : Int) - 1 - j, zs[zs.length - 1 - j]?.getD 0)
theorem jo6 {zs : List Int} {j : Nat} (h : j < zs.length) : (jf4 zs j).2 ∈ zs := by
 unfold jf4
 have h2 : zs.length - 1 - j < zs.length := by omega
 rw [List.getElem?_eq_getElem h2]
 exact List.getElem_mem h2
abbrev jtx (zs : List Int) : Type := { x : Int × Int // x.2 ∈ zs }
theorem jif (zs : List Int) : (jc3 (jf4 zs) zs.length).map (·.2) = zs.reverse := by
 refine List.ext_getElem? fun j => ?_
 unfold jc3
 rw [List.map_map, List.getElem?_map]
 rcases Nat.lt_or_ge j zs.length with h | h
 ·have h2 : zs.length - 1 - j < zs.length := by omega
  rw [List.getElem?_range h, List.getElem?_reverse h, List.getElem?_eq_getElem h2]
  simp only [Option.map_some, Function.comp_apply, jf4, List.getElem?_eq_getElem h2, Option.getD_some]
 ·rw [List.getElem?_eq_none (by simpa using h), List.getElem?_eq_none (by simpa using h)]; rfl
theorem jlc (zs : List Int) {k : Nat} (hk : k <= zs.length) : (jc3 (jf4 zs) k).map (·.2) = zs.reverse.take k := by
 rw [<- jif]
 unfold jc3
 rw [<- List.map_take, <- List.map_take, List.take_range, Nat.min_eq_left hk]
theorem jmf {A : Int -> Option Int} {by_ : Int} : ∀ {l : List Int}, (∀ τ ∈ l, ∃ a, A τ = some a /\ ¬ a <= by_) -> je3 A by_ l = some (0, false)
 | [], _ => rfl
 | τ :: l, h => by
  obtain ⟨a, h1, h2⟩ := h τ (List.mem_cons_self ..)
  unfold je3
  rw [h1, Option.bind_some, if_neg h2]
  exact jmf fun x hx => h x (List.mem_cons_of_mem _ hx)
theorem jj9 {A : Int -> Option Int} {by_ τ : Int} {r : List Int} (hτ : ∃ a, A τ = some a /\ a <= by_) : ∀ {l : List Int}, (∀ τ ∈ l, ∃ a, A τ = some a /\ ¬ a <= by_) -> je3 A by_ (l ++ τ :: r) = some (τ, true)
 | [], _ => by
  obtain ⟨a, h1, h2⟩ := hτ
  show je3 A by_ (τ :: r) = _
  unfold je3
  rw [h1, Option.bind_some, if_pos h2]
 | x :: l, h => by
  obtain ⟨a, h1, h2⟩ := h x (List.mem_cons_self ..)
  show je3 A by_ (x :: (l ++ τ :: r)) = _
  unfold je3
  rw [h1, Option.bind_some, if_neg h2]
  exact jj9 hτ fun y hy => h y (List.mem_cons_of_mem _ hy)

def K0 : Kap := fun _ => kv undef
def jls (n : Nat) (W : World) (v : Value) (l : List Int) : Prop :=
 (v = .slice none 0 0 /\ l = []) \/ ∃ b off cap, v = .slice (some ⟨b, off, none⟩) l.length cap /\ n <= b /\ b < W.heap.size /\ l.length <= cap /\ cap <= maxLen /\ ∀ j, j < l.length -> W.cell? ⟨b, off + j, none⟩ = some (.int .i64 (l[j]?.getD 0))
theorem joj {F : Nat -> Prop} {w : World} : ∀ {a : List Int} {us : List Value}, RE F w 1 (a.map Enc.e) us -> us = a.map (Value.int .i64)
 | [], us, h => by
  unfold RE at h
  simpa using h
 | x :: a, us, h => by
  rw [List.map_cons] at h
  unfold RE at h
  obtain ⟨u, us', rfl, _, h1, h2⟩ := h
  have h3 : ∃ y, u = [y] /\ one y = true /\ RD F w (.sc (.int .i64 x)) y := h1
  obtain ⟨y, rfl, _, h4⟩ := h3
  unfold RD at h4
  obtain ⟨rfl, _⟩ := h4
  rw [joj h2]; rfl
theorem jo8 {F : Nat -> Prop} {w : World} : ∀ (a : List Int), RE F w 1 (a.map Enc.e) (a.map (Value.int .i64))
 | [] => by unfold RE; rfl
 | x :: a => by
  rw [List.map_cons, List.map_cons]
  unfold RE
  refine ⟨[Value.int .i64 x], a.map (Value.int .i64), rfl, rfl, ?_, jo8 a⟩
  show ∃ y, [Value.int .i64 x] = [y] /\ one y = true /\ RD F w (.sc (.int .i64 x)) y
  refine ⟨_, rfl, rfl, ?_⟩
  unfold RD
  exact ⟨rfl, rfl⟩
theorem jls.below {n : Nat} {A B : World} {v : Value} {l : List Int} (h : jls n A v l) (hb : Below A.heap.size A B) : jls n B v l := by
 rcases h with h | ⟨b, off, cap, h1, h2, h3, h4, h5, h6⟩
 ·exact .inl h
 ·exact .inr ⟨b, off, cap, h1, h2, Nat.lt_of_lt_of_le h3 hb.size, h4, h5, fun j hj => (hb.cell (p := ⟨b, off + j, none⟩) h3).trans (h6 j hj)⟩
theorem jls.rd {n : Nat} {W : World} {v : Value} {l : List Int} (h : jls n W v l) {F : Nat -> Prop} (hF : ∀ a k c, v = .slice (some a) k c -> F a.block) : RD F W (Enc.e l) v := by
 show RD F W (.sl 1 (l.map Enc.e)) v
 unfold RD
 rw [List.length_map]
 rcases h with ⟨rfl, rfl⟩ | ⟨b, off, cap, rfl, h2, h3, h4, h5, h6⟩
 ·exact ⟨none, 0, rfl, Nat.le_refl _, by unfold maxLen; omega, fun _ => rfl, .inl rfl⟩
 ·refine ⟨_, cap, rfl, h4, h5, (by intro h; cases h), .inr ⟨b, off, l.map (Value.int .i64), rfl, hF _ _ _ rfl, by simp, fun j u hj => ?_, jo8 l⟩⟩
  rw [List.getElem?_map] at hj
  cases hl : l[j]? with
  | none => rw [hl] at hj; cases hj
  | some x =>
   rw [hl] at hj
   cases hj
   have := h6 j (List.getElem?_eq_some_iff.1 hl).1
   rw [hl] at this
   exact this
theorem jtf {α β : Type} {M : MS α β} {f : Nat} (h : FnOK P J f M.S) {x : α} {y : β} (hm : M.m x = some y) (ho : M.p.o x = []) {u : Value} (hr : M.r y = .dat (.sc u)) {F : Nat -> Prop} {w : World} {vs : List Value}
  (hargs : RVs K0 F w (jas M.p.lend (M.p.d x) 0) vs) (hF : ∀ b, F b -> b < w.heap.size) (hJ : JOK J F w) : Calls P f vs.toArray w fun e w' => e = .returned u /\ Below w.heap.size w w' := by
 have hc := M.c x hm
 refine Calls.mono (h.2 vs w F (M.p.d x) [] K0 (by rw [<- ho]; exact hc.1) hargs hF hJ ⟨by simp, by simp, by simp⟩) ?_
 rintro e w' ⟨v, rfl, r, new, obs', κ', κl, F', hret⟩
 obtain ⟨rfl, rfl, rfl⟩ := hc.2 r new obs' (by rw [ho]; exact hret.post)
 have hv := hret.rv
 rw [hr] at hv
 unfold RV RD at hv
 exact ⟨by rw [hv.1], hret.wx.os, hret.wx.tape, hret.wx.output, hret.wx.size, fun k hk => hret.wx.block k ⟨hk, by rintro ⟨j, x, hx, _⟩; simp at hx⟩⟩
theorem jsg {α β : Type} {M : MS α β} {f : Nat} (h : FnOK P J f M.S) {x : α} {y : β} (hm : M.m x = some y) (ho : M.p.o x = []) {E : TypeId} {l : List Int} (hr : M.r y = .own 0) (hn : M.n y = [arO E l]) {F : Nat -> Prop} {w : World} {vs : List Value}
  (hargs : RVs K0 F w (jas M.p.lend (M.p.d x) 0) vs) (hF : ∀ b, F b -> b < w.heap.size) (hJ : JOK J F w) : Calls P f vs.toArray w fun e w' => ∃ v, e = .returned v /\ Below w.heap.size w w' /\ jls w.heap.size w' v l := by
 have hc := M.c x hm
 refine Calls.mono (h.2 vs w F (M.p.d x) [] K0 (by rw [<- ho]; exact hc.1) hargs hF hJ ⟨by simp, by simp, by simp⟩) ?_
 rintro e w' ⟨v, rfl, r, new, obs', κ', κl, F', hret⟩
 obtain ⟨rfl, rfl, rfl⟩ := hc.2 r new obs' (by rw [ho]; exact hret.post)
 have hv := hret.rv
 rw [hr] at hv
 unfold RV at hv
 refine ⟨v, rfl, ⟨hret.wx.os, hret.wx.tape, hret.wx.output, hret.wx.size, fun k hk => hret.wx.block k ⟨hk, by rintro ⟨j, x, hx, _⟩; simp at hx⟩⟩, ?_⟩
 have hnew := hret.new
 rw [hn] at hnew
 obtain ⟨us, h0, hre, _⟩ := (show jbw F' w' E 1 (κ' 0).v (l.map Enc.e) from (hnew.ok 0 _ rfl).1)
 have hus := joj hre
 subst hus
 rw [<- hv.1] at h0
 rw [List.length_map] at h0
 rcases h0.2 with ⟨h1, h2⟩ | ⟨b, off, cap, cur, h1, h2, h3, h4, _⟩
 ·exact .inl ⟨h1, List.eq_nil_of_length_eq_zero h2⟩
 ·obtain ⟨eb, fz, h5, _⟩ := h2
  refine .inr ⟨b, off, cap, h1, ?_, (Array.getElem?_eq_some_iff.1 h5).1, h3, h4, fun j hj => ?_⟩
  ·have hb := hnew.blk 0 _ rfl b (.inl (by rw [<- hv.1, h1]; rfl))
   rcases hb.1 with ⟨j, x, hx, _⟩ | hb
   ·simp at hx
   ·exact hb
  ·rw [List.getElem?_eq_getElem hj]
   exact h0.cells h1 j _ (by rw [List.getElem?_map, List.getElem?_eq_getElem hj]; rfl)
theorem ja7 {α : Type} : ∀ {n : Nat} {l : List α}, l.length = n + 1 -> ∃ a l', l = a :: l' /\ l'.length = n
 | _, [], h => by simp at h
 | _, a :: l, h => ⟨a, l, rfl, by simpa using h⟩
theorem ji3 {κ : Kap} {F : Nat -> Prop} {w : World} : RVs κ F w [] [] := by unfold RVs; rfl
theorem jc2 {κ : Kap} {F : Nat -> Prop} {w : World} {d : D} {v : Value} {l : List AV} {vs : List Value} (h : RD F w d v) (h' : RVs κ F w l vs) : RVs κ F w (.dat d :: l) (v :: vs) := by
 unfold RVs; exact ⟨v, vs, rfl, by unfold RV; exact h, h'⟩
theorem jft {F : Nat -> Prop} {w : World} (n : Int) : RD F w (Enc.e n) (.int .i64 n) := by
 show RD F w (.sc (.int .i64 n)) _
 unfold RD; exact ⟨rfl, rfl⟩
theorem jl1 {κ : Kap} {F : Nat -> Prop} {w : World} : ∀ {l : List Int} {vs : List Value}, RVs κ F w (l.map fun n => .dat (Enc.e n)) vs -> vs = l.map (Value.int .i64)
 | [], vs, h => by simp only [List.map_nil] at h; unfold RVs at h; exact h
 | n :: l, vs, h => by
  simp only [List.map_cons] at h
  unfold RVs at h
  obtain ⟨v, vs', rfl, h1, h2⟩ := h
  have h1 : RV κ F w (.dat (.sc (.int .i64 n))) v := h1
  unfold RV RD at h1
  rw [h1.1, jl1 h2]; rfl
structure LateW (B : Nat) (W : World) (s1 s2 s3 : Value) (ch fr to by_ : Int) : Prop where
 c1 : W.cell? ⟨B, 0, none⟩ = some s1
 c2 : W.cell? ⟨B, 1, none⟩ = some s2
 c3 : W.cell? ⟨B, 2, none⟩ = some s3
 c4 : W.cell? ⟨B + 1, 0, none⟩ = some (.int .i64 ch)
 c5 : W.cell? ⟨B + 1 + 1, 0, none⟩ = some (.int .i64 fr)
 c6 : W.cell? ⟨B + 1 + 1 + 1, 0, none⟩ = some (.int .i64 to)
 c7 : W.cell? ⟨B + 1 + 1 + 1 + 1, 0, none⟩ = some (.int .i64 by_)
 c8 : W.cell? ⟨B + 1 + 1 + 1 + 1 + 1, 0, none⟩ = some (.int .i64 0)
 f8 : W.frozen? ⟨B + 1 + 1 + 1 + 1 + 1, 0, none⟩ = false
 c9 : W.cell? ⟨B + 1 + 1 + 1 + 1 + 1 + 1, 0, none⟩ = some (.bool false)
 f9 : W.frozen? ⟨B + 1 + 1 + 1 + 1 + 1 + 1, 0, none⟩ = false
 lt : B + 7 <= W.heap.size
theorem LateW.keep {B : Nat} {A W : World} {s1 s2 s3 : Value} {ch fr to by_ : Int} (h : LateW B A s1 s2 s3 ch fr to by_) (hs : A.heap.size <= W.heap.size) (hb : ∀ k, k < B + 7 -> W.heap[k]? = A.heap[k]?) : LateW B W s1 s2 s3 ch fr to by_ := by
 have q : ∀ k i, k < B + 7 -> W.cell? ⟨k, i, none⟩ = A.cell? ⟨k, i, none⟩ := fun k i hk => World.cell?_of_block (hb k hk)
 have f : ∀ k i, k < B + 7 -> W.frozen? ⟨k, i, none⟩ = A.frozen? ⟨k, i, none⟩ := fun k i hk => World.frozen?_of_block (hb k hk)
 exact ⟨(q _ _ (by omega)).trans h.c1, (q _ _ (by omega)).trans h.c2, (q _ _ (by omega)).trans h.c3, (q _ _ (by omega)).trans h.c4, (q _ _ (by omega)).trans h.c5, (q _ _ (by omega)).trans h.c6, (q _ _ (by omega)).trans h.c7,
  (q _ _ (by omega)).trans h.c8, (f _ _ (by omega)).trans h.f8, (q _ _ (by omega)).trans h.c9, (f _ _ (by omega)).trans h.f9, Nat.le_trans h.lt hs⟩
theorem LateW.below {B : Nat} {A W : World} {s1 s2 s3 : Value} {ch fr to by_ : Int} (h : LateW B A s1 s2 s3 ch fr to by_) (hb : Below A.heap.size A W) : LateW B W s1 s2 s3 ch fr to by_ :=
 h.keep hb.size fun k hk => hb.block k (Nat.lt_of_lt_of_le hk h.lt)
theorem jr8 (w : World) (T i b : TypeId) (s1 s2 s3 : Value) (ch fr to by_ : Int) :
  LateW w.heap.size (((((((w.alloc (.cells #[s1, s2, s3] T)).alloc (.cells #[.int .i64 ch] i)).alloc (.cells #[.int .i64 fr] i)).alloc (.cells #[.int .i64 to] i)).alloc (.cells #[.int .i64 by_] i)).alloc (.cells #[.int .i64 0] i)).alloc (.cells #[.bool false] b)) s1 s2 s3 ch fr to by_ /\
  Below w.heap.size w (((((((w.alloc (.cells #[s1, s2, s3] T)).alloc (.cells #[.int .i64 ch] i)).alloc (.cells #[.int .i64 fr] i)).alloc (.cells #[.int .i64 to] i)).alloc (.cells #[.int .i64 by_] i)).alloc (.cells #[.int .i64 0] i)).alloc (.cells #[.bool false] b)) := by
 have step : ∀ (x : World) (o : Obj), Below x.heap.size x (x.alloc o) := fun x o => (Below.refl _ x).alloc (Nat.le_refl _) o
 have box : ∀ (x : World) (c : Array Value) (t : TypeId) (W : World), Below (x.heap.size + 1) (x.alloc (.cells c t)) W -> W.heap[x.heap.size]? = some (.cells c t (0, 0)) := fun x c t W h => (h.block _ (by omega)).trans (World.alloc_heap_new x _)
 have up : ∀ (n : Nat) (x W : World) (o : Obj), n <= W.heap.size -> Below n x W -> Below n x (W.alloc o) := fun n x W o hn h => h.trans ((Below.refl _ W).alloc hn o)
 refine ⟨?_, ?_⟩
 ·have h0 := box w #[s1, s2, s3] T _ (up _ _ _ (.cells #[.bool false] b) (by simp) (up _ _ _ (.cells #[.int .i64 0] i) (by simp) (up _ _ _ (.cells #[.int .i64 by_] i) (by simp) (up _ _ _ (.cells #[.int .i64 to] i) (by simp) (up _ _ _ (.cells #[.int .i64 fr] i) (by simp) (up _ _ _ (.cells #[.int .i64 ch] i) (by simp) (Below.refl _ _)))))))
  have h1 := box (w.alloc (.cells #[s1, s2, s3] T)) #[.int .i64 ch] i _ (up _ _ _ (.cells #[.bool false] b) (by simp) (up _ _ _ (.cells #[.int .i64 0] i) (by simp) (up _ _ _ (.cells #[.int .i64 by_] i) (by simp) (up _ _ _ (.cells #[.int .i64 to] i) (by simp) (up _ _ _ (.cells #[.int .i64 fr] i) (by simp) (Below.refl _ _))))))
  have h2 := box ((w.alloc (.cells #[s1, s2, s3] T)).alloc (.cells #[.int .i64 ch] i)) #[.int .i64 fr] i _ (up _ _ _ (.cells #[.bool false] b) (by simp) (up _ _ _ (.cells #[.int .i64 0] i) (by simp) (up _ _ _ (.cells #[.int .i64 by_] i) (by simp) (up _ _ _ (.cells #[.int .i64 to] i) (by simp) (Below.refl _ _)))))
  have h3 := box (((w.alloc (.cells #[s1, s2, s3] T)).alloc (.cells #[.int .i64 ch] i)).alloc (.cells #[.int .i64 fr] i)) #[.int .i64 to] i _ (up _ _ _ (.cells #[.bool false] b) (by simp) (up _ _ _ (.cells #[.int .i64 0] i) (by simp) (up _ _ _ (.cells #[.int .i64 by_] i) (by simp) (Below.refl _ _))))
  have h4 := box ((((w.alloc (.cells #[s1, s2, s3] T)).alloc (.cells #[.int .i64 ch] i)).alloc (.cells #[.int .i64 fr] i)).alloc (.cells #[.int .i64 to] i)) #[.int .i64 by_] i _ (up _ _ _ (.cells #[.bool false] b) (by simp) (up _ _ _ (.cells #[.int .i64 0] i) (by simp) (Below.refl _ _)))
  have h5 := box (((((w.alloc (.cells #[s1, s2, s3] T)).alloc (.cells #[.int .i64 ch] i)).alloc (.cells #[.int .i64 fr] i)).alloc (.cells #[.int .i64 to] i)).alloc (.cells #[.int .i64 by_] i)) #[.int .i64 0] i _ (up _ _ _ (.cells #[.bool false] b) (by simp) (Below.refl _ _))
  have h6 := World.alloc_heap_new ((((((w.alloc (.cells #[s1, s2, s3] T)).alloc (.cells #[.int .i64 ch] i)).alloc (.cells #[.int .i64 fr] i)).alloc (.cells #[.int .i64 to] i)).alloc (.cells #[.int .i64 by_] i)).alloc (.cells #[.int .i64 0] i)) (.cells #[.bool false] b)
  simp only [World.size_alloc] at h1 h2 h3 h4 h5 h6
  refine ⟨?_, ?_, ?_, ?_, ?_, ?_, ?_, ?_, ?_, ?_, ?_, by simp⟩
  ·exact cell_of_row _ _ 0 _ _ _ h0
  ·exact cell_of_row _ _ 1 _ _ _ h0
  ·exact cell_of_row _ _ 2 _ _ _ h0
  ·exact cell_of_row _ _ 0 _ _ _ h1
  ·exact cell_of_row _ _ 0 _ _ _ h2
  ·exact cell_of_row _ _ 0 _ _ _ h3
  ·exact cell_of_row _ _ 0 _ _ _ h4
  ·exact cell_of_row _ _ 0 _ _ _ h5
  ·unfold World.frozen?; rw [h5]; rfl
  ·exact cell_of_row _ _ 0 _ _ _ h6
  ·unfold World.frozen?; rw [h6]; rfl
 ·exact up _ _ _ _ (by simp; omega) (up _ _ _ _ (by simp; omega) (up _ _ _ _ (by simp; omega) (up _ _ _ _ (by simp; omega) (up _ _ _ _ (by simp; omega) (up _ _ _ _ (by simp) (step w _))))))
theorem jg5 {B : Nat} {W : World} (h8 : (W.cell? ⟨B + 1 + 1 + 1 + 1 + 1, 0, none⟩).isSome = true) (h9 : (W.cell? ⟨B + 1 + 1 + 1 + 1 + 1 + 1, 0, none⟩).isSome = true) (u v : Value) :
  ((W.setCell ⟨B + 1 + 1 + 1 + 1 + 1, 0, none⟩ u).setCell ⟨B + 1 + 1 + 1 + 1 + 1 + 1, 0, none⟩ v).cell? ⟨B + 1 + 1 + 1 + 1 + 1, 0, none⟩ = some u /\
  ((W.setCell ⟨B + 1 + 1 + 1 + 1 + 1, 0, none⟩ u).setCell ⟨B + 1 + 1 + 1 + 1 + 1 + 1, 0, none⟩ v).cell? ⟨B + 1 + 1 + 1 + 1 + 1 + 1, 0, none⟩ = some v /\
  ∀ n, n <= B -> Below n W ((W.setCell ⟨B + 1 + 1 + 1 + 1 + 1, 0, none⟩ u).setCell ⟨B + 1 + 1 + 1 + 1 + 1 + 1, 0, none⟩ v) := by
 have ne : (⟨B + 1 + 1 + 1 + 1 + 1 + 1, 0, none⟩ : Addr) ≠ ⟨B + 1 + 1 + 1 + 1 + 1, 0, none⟩ := by
  intro h
  have := congrArg Addr.block h
  simp at this
 refine ⟨?_, World.cell?_setCell_same' _ _ _ ?_, fun n hn => ?_⟩
 ·rw [World.cell?_setCell_other (h := ne)]
  exact World.cell?_setCell_same' _ _ _ h8
 ·rw [World.cell?_setCell_other (h := ne.symm)]; exact h9
 ·exact ((Below.refl n W).setCell (p := ⟨B + 1 + 1 + 1 + 1 + 1, 0, none⟩) (by show n <= B + 1 + 1 + 1 + 1 + 1; omega) u).setCell (p := ⟨B + 1 + 1 + 1 + 1 + 1 + 1, 0, none⟩) (by show n <= B + 1 + 1 + 1 + 1 + 1 + 1; omega) v
section
variable {P : Program} {Q : Exit -> Act -> World -> Prop}
theorem jqj {o : Oper} (ho : ∀ c, o.op ≠ .defer c) {l n : Nat} {a : Act} {w : World} {K K' : Act -> World -> Prop} (hK : ∀ a w, K a w -> K' a w) (h : o.wp P a w K Q) : o.wpIn (Fence.wide.inRound l) n P a w K' Q := by
 unfold Oper.wp at h
 refine ⟨fun _ _ => trivial, ?_⟩
 rw [show (Fence.wide.inRound l).round = some l from rfl, Oper.semAt_some l _ _ ho]
 generalize (execOp a.eval o).run P w = r at h
 cases r with
 | halt x w' => cases x <;> first | exact h | exact h.elim
 | ok nx w' =>
  cases nx with
  | value v => exact hK _ _ h
  | skip => exact hK _ _ h
  | defer d => exact hK _ _ h
  | enter f args => exact ⟨fun h => (by cases h), CallsIn.mono (show CallsIn (Fence.wide.inRound l) (n - 1) P f args w' _ from callsIn_wide.2 h) (fun e w'' he => by cases e <;> first | exact hK _ _ he | exact he)⟩
  | row r args => exact ⟨fun h => (by cases h), fun c cs hroom => let ⟨v, w'', g, s⟩ := h c cs; ⟨v, w'', hK _ _ g, stepsIn_wide.2 s⟩⟩
  | _ => exact h.elim
theorem jfb {ops : Array Oper} (hd : ∀ o ∈ ops, ∀ c, o.op ≠ .defer c) (hQ : ¬ LetsOut Q) {md : Region.Mode} {l n : Nat} : ∀ (fuel : Nat) (listed : Array Bool) (a : Act) (w : World), wpAny P md ops Q fuel listed a w -> wpAnyIn (Fence.wide.inRound l) n P md ops Q fuel listed a w
 | 0, _, _, _, h => h
 | fuel + 1, listed, a, w, h => by
  refine ⟨h.1, fun i hi => ?_⟩
  have h2 := h.2 i hi
  unfold wpOp at h2
  unfold wpOpIn
  cases hi : ops[i]? with
  | none => rw [hi] at h2; exact jfb hd hQ fuel _ _ _ h2
  | some o =>
   rw [hi] at h2
   simp only [] at h2 ⊢
   split at h2
   ·rename_i hw
    rw [if_pos hw]
    rcases h2 with h2 | ⟨_, h2⟩
    ·exact jqj (hd o (Array.mem_of_getElem? hi)) (fun a w h => jfb hd hQ fuel _ a w h) h2
    ·exact absurd h2 hQ
   ·rename_i hw
    rw [if_neg hw]
    exact ⟨fun _ _ => trivial, jfb hd hQ fuel _ _ _ h2⟩
variable {cx : Cx} {ty : TypeId -> Option TyE} {Γ : Nat -> Option FnSpec}
def jr5 (o : Oper) : Bool := match o.op with
 | .defer _ => false
 | _ => true
theorem jqs {l : List Oper} (h : l.all jr5 = true) : ∀ o ∈ l, ∀ c, o.op ≠ .defer c := by
 intro o ho c hc
 have := List.all_eq_true.1 h o ho
 unfold jr5 at this
 rw [hc] at this
 cases this
theorem jme {κ : Kap} {F : Nat -> Prop} {w : World} : ∀ {l : List AV} {vs : List Value}, RVs κ F w l vs -> ∀ t, RV κ F w (l.getD t .und) (vs.toArray.getD t undef)
 | [], vs, h, t => by
  unfold RVs at h
  subst h
  simp only [List.getD_eq_getElem?_getD, List.getElem?_nil, Option.getD_none]
  unfold RV; rfl
 | x :: l, vs, h, t => by
  unfold RVs at h
  obtain ⟨v, vs', rfl, h1, h2⟩ := h
  cases t with
  | zero => simpa using h1
  | succ t =>
   have := jme h2 t
   simpa using this
theorem jr9 {m : Nat} {l : List AV} (h : l.all (nbB m) = true) : ∀ t, NB (· < m) (l.getD t .und) := by
 intro t
 rw [List.getD_eq_getElem?_getD]
 cases ht : l[t]? with
 | none => unfold Option.getD NB; trivial
 | some x => exact jl8 (List.all_eq_true.1 h x (List.mem_of_getElem? ht))
theorem jqv {J : Inv} {F : Nat -> Prop} {W : World} {n : Nat} {A : List (Nat × AV)} {nx : Nat} {T : List Value} {EL : List AV} (hF : ∀ b, F b -> b < W.heap.size) (hJ : JOK J F W) (hs : T.length = n) (hE : envX n A = EL) (hrv : RVs K0 F W EL T) (hnb : EL.all (nbB nx) = true) :
  Rel ⟨fun b => b < W.heap.size, fun _ => True, W.heap.size, 0, K0, J⟩ K0 F ((⟨A, [], nx⟩ : X).st n) ⟨T.toArray, []⟩ W := by
 subst hE
 refine ⟨⟨by simp [X.st, envX, hs], rfl, jme hrv, jr9 hnb⟩, ⟨fun o x hx => (by cases hx), fun o x hx => (by cases hx), fun o x hx => (by cases hx), fun o x o' x' hx => (by cases hx), fun b hb => ⟨trivial, hF b hb⟩, fun b hb => hb, fun _ _ => trivial, Nat.le_refl _, hJ, fun j hj => absurd hj (Nat.not_lt_zero _)⟩⟩
theorem jdy {κ : Kap} {F : Nat -> Prop} {w : World} {x : AV} {v : Value} {l : List AV} {vs : List Value} (h : RV κ F w x v) (h' : RVs κ F w l vs) : RVs κ F w (x :: l) (v :: vs) := by
 unfold RVs; exact ⟨v, vs, rfl, h, h'⟩
theorem jgp {κ : Kap} {F : Nat -> Prop} {w : World} {v : Value} : RV κ F w .unk v := by unfold RV; trivial
theorem joe {κ : Kap} {F : Nat -> Prop} {w : World} : ∀ (n : Nat) (vs : List Value), vs.length = n -> RVs κ F w (List.replicate n .unk) vs
 | 0, vs, h => by rw [List.length_eq_zero_iff.1 h]; unfold List.replicate RVs; rfl
 | n + 1, [], h => by simp at h
 | n + 1, v :: vs, h => by rw [List.replicate_succ]; exact jdy jgp (joe n vs (by simpa using h))
theorem js2 {κ : Kap} {F : Nat -> Prop} {w : World} {b : Nat} {ds : List D} {us : List Value} (hF : F b) (hc : ∀ j u, us[j]? = some u -> w.cell? ⟨b, j, none⟩ = some u) (hr : RC F w ds us) : RV κ F w (.fp ds) (.pointer (some ⟨b, 0, none⟩)) := by
 unfold RV
 exact ⟨b, 0, us, rfl, hF, fun j u h => by rw [Nat.zero_add]; exact hc j u h, hr⟩
theorem jkq (hm : P.follows .mixedOrders = true) (hty : ∀ t x, ty t = some x -> TyOK P t x) (hΓ : ∀ f S, Γ f = some S -> FnOK P cx.J f S) (hl : Live Γ) {id n : Nat} {l : List Oper} {x : X} (M : List (Nat × List Nat)) (hB : (Region.lexB .any l.toArray && lexM ty Γ (mAt M) l.toArray) = true)
  (hd : l.all jr5 = true) (hs : List (Nat × H)) {ps : List Prop} (hp : AllP ps) (h : rP (exR none (chkM ty Γ l n M) ty Γ l n l 0 hs x) = some ps) {rl m : Nat} {κ : Kap} {F : Nat -> Prop} {a : Act} {w : World} (hr : Rel cx κ F (x.st n) a w) (hQ : ¬ LetsOut Q) (fs : List (Nat × AV)) (hfs : fs.map (fun p => (envX n (rX (exR none (chkM ty Γ l n M) ty Γ l n l 0 hs x)).A).getD p.1 .und) = fs.map (·.2))
  (hk : ∀ κ' F' a' w', (∀ b, F b -> F' b) -> Wy cx F w w' -> a'.tmps.size = n -> a'.defers = [] -> (∀ p ∈ fs, RV κ' F' w' p.2 (a'.tmps.getD p.1 undef)) -> Q .normal a' w') : (Code.region id l.toArray true).wpIn (Fence.wide.inRound rl) m P Q a w := by
 simp only [Bool.and_eq_true] at hB
 obtain ⟨hB, hM⟩ := hB
 cases he : exR none (chkM ty Γ l n M) ty Γ l n l 0 hs x with
 | none => rw [he] at h; cases h
 | some r =>
  obtain ⟨ps', x'⟩ := r
  rw [he] at h hfs
  cases h
  refine wpIn_region_any hm ?_
  simp only [Region.lexB, Bool.and_eq_true] at hB
  have hrun : runD ty Γ l.toArray (mAt M) (fun env σ m => env = envX n x'.A /\ σ = obo x'.L) l 0 x.nx (envX n x.A) (obo x.L) := je7 (fun i o A => jpz) l 0 hs x x' _ he hp ⟨rfl, rfl⟩
  have hlex := jjn (base := x.nx) hl (jkf hM) l 0 (Array.replicate l.toArray.size false) (envX n x.A) (obo x.L) (by simp) (by simp) jhh (by simpa using hB.2) (by simpa using hrun)
  have hU : ∀ k, k < x.nx -> Ul x.nx (Array.replicate l.toArray.size false) k := fun k hk => .inl hk
  have hr0 : RelU cx κ F (· < x.nx) (envX n x.A) (obo x.L) a w := ⟨hr.env, hr.orel⟩
  refine jfb (fun o ho => jqs hd o (by simpa using ho)) hQ _ _ _ _ (jim hty hΓ _ _ κ F (envX n x.A) (obo x.L) a _ ((hr0.un hU).drawn) (by simp) (by simpa using hlex) ?_)
  rintro κ' F' env' σ' a' w' ⟨rfl, rfl⟩ h2 h3 h4
  refine hk κ' F' a' w' h2 (jlu.trans h3 (fun b hb => hb)) (by rw [h4.env.size]; simp [envX]) h4.env.dfr fun p hp => ?_
  have e : (envX n x'.A).getD p.1 .und = p.2 := List.map_inj_left.1 hfs p hp
  rw [<- e]
  exact h4.env.rv p.1
end
end Go.Ab
