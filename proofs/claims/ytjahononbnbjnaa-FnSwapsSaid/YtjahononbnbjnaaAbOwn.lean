/- My own layer: the slice has its own memory, beginning anywhere in its block. No program in sight. -/
import Derived.Test.YtjahononbnbjnaaAbBase
import Derived.Laws.AppendOwnNone
namespace Go.Ab
set_option linter.unusedVariables false
set_option linter.unusedSimpArgs false

def FzOK (e n : Nat) (fz : Nat × Nat) : Prop := fz = (0, 0) ∨ (4294967296 ≤ e ∧ n ≤ fz.1)
theorem FzOK.low {e n : Nat} {fz : Nat × Nat} (h : FzOK e n fz) (he : Nat.ble e 4294967295 = true) : fz = (0, 0) := h.resolve_right fun h => by have := Nat.le_of_ble_eq_true he; omega
theorem FzOK.not {e n : Nat} {fz : Nat × Nat} (h : FzOK e n fz) {j : Nat} (hj : j < n) : (decide (fz.1 ≤ j) && decide (j < fz.2)) = false := by
 rcases h with rfl | ⟨_, h⟩
 ·simp
 ·simp; omega
def HBlk (w : World) (e : Nat) (g : Nat) (cur : Array Value) : Prop := ∃ eb fz, w.heap[g]? = some (.cells cur eb fz) ∧ FzOK e cur.size fz
theorem HBlk.keep {w w' : World} {e g : Nat} {cur : Array Value} (h : HBlk w e g cur) (hb : w'.heap[g]? = w.heap[g]?) : HBlk w' e g cur := by
 unfold HBlk; rw [hb]; exact h
def Own (w : World) (e : TypeId) (size : Nat) (v : Value) (n : Nat) (xs : List Value) : Prop :=
 xs.length = n * size ∧
 ((v = .slice none 0 0 ∧ n = 0) ∨
 ∃ g off cap cur, v = .slice (some ⟨g, off, none⟩) n cap ∧ HBlk w e g cur ∧ n ≤ cap ∧ cap ≤ maxLen ∧ off + cap * size ≤ cur.size ∧ (cur.toList.drop off).take (n * size) = xs)

section
variable {P : Program} {w : World} {e : TypeId} {size : Nat} {v : Value} {n : Nat} {xs : List Value}
theorem Own.of (h : w.ownsRow 0 e size v n xs) : Own w e size v n xs := by
 refine ⟨h.1, ?_⟩
 rcases h.2 with h | ⟨g, cap, cur, h1, _, h2, h3, h4, h5, h6⟩
 ·exact .inl h
 ·exact .inr ⟨g, 0, cap, cur, h1, ⟨_, _, h2, .inl rfl⟩, h3, h4, by rw [h5, Nat.zero_add]; exact Nat.le_refl _, by simpa using h6⟩
theorem Own.nil (w : World) (e : TypeId) (size : Nat) : Own w e size (.slice none 0 0) 0 [] := ⟨by simp, .inl ⟨rfl, rfl⟩⟩
theorem Own.slice (h : Own w e size v n xs) : ∃ a c, v = .slice a n c := by
 rcases h.2 with ⟨rfl, rfl⟩ | ⟨g, off, cap, cur, rfl, _⟩
 ·exact ⟨_, _, rfl⟩
 ·exact ⟨_, _, rfl⟩
theorem Own.keep {w' : World} (h : Own w e size v n xs) (hb : ∀ b, v.ownBlock = some b → w'.heap[b]? = w.heap[b]?) : Own w' e size v n xs := by
 refine ⟨h.1, ?_⟩
 rcases h.2 with hn | ⟨g, off, cap, cur, rfl, hg, rest⟩
 ·exact .inl hn
 ·exact .inr ⟨g, off, cap, cur, rfl, by unfold HBlk; rw [hb g rfl]; exact hg, rest⟩
theorem Own.cells (h : Own w e size v n xs) {g off n' cap : Nat} (hv : v = .slice (some ⟨g, off, none⟩) n' cap) : ∀ j u, xs[j]? = some u → w.cell? ⟨g, off + j, none⟩ = some u := by
 intro j u hu
 rcases h.2 with ⟨h1, _⟩ | ⟨g', off', cap', cur, h1, ⟨eb, fz, hgg, _⟩, _, _, _, htake⟩
 ·rw [hv] at h1; simp at h1
 ·rw [hv] at h1
  simp only [Value.slice.injEq, Option.some.injEq, Addr.mk.injEq, and_true] at h1
  obtain ⟨⟨rfl, rfl⟩, _⟩ := h1
  rw [cell_of_row w g (off + j) cur eb fz hgg]
  rw [← htake, List.getElem?_take] at hu
  split at hu
  ·rw [List.getElem?_drop] at hu; simpa using hu
  ·cases hu

theorem run_storeCells_any (P : Program) (g o : Nat) (t : TypeId) (fz : Nat × Nat) : ∀ (vs : List Value) (i : Nat) (cur : Array Value) (w : World), w.heap[g]? = some (.cells cur t fz) → (∀ j, j < cur.size → (decide (fz.1 ≤ j) && decide (j < fz.2)) = false) → o + i + vs.length ≤ cur.size → (∀ v ∈ vs, v.oneCell' = true) →
  (storeCells ⟨g, o, none⟩ vs i).run P w = .ok () (w.setRow g (cur.toList.take (o + i) ++ vs ++ cur.toList.drop (o + i + vs.length)).toArray)
 | [], i, cur, w, hg, _, _, _ => by
  simp only [storeCells, List.append_nil, List.length_nil, Nat.add_zero, List.take_append_drop, Array.toArray_toList]
  rw [setRow_self w g cur t fz hg]
  rfl
 | v :: rest, i, cur, w, hg, hz, hl, h1 => by
  have hi : o + i < cur.size := by simp at hl; omega
  have hadd : (⟨g, o, none⟩ : Addr).add i = ⟨g, o + i, none⟩ := by unfold Addr.add; split <;> simp_all
  have hcell : w.cell? ⟨g, o + i, none⟩ = some cur[o + i] := by simp [World.cell?, hg, hi]
  have hfro : w.frozen? ⟨g, o + i, none⟩ = false := by unfold World.frozen?; rw [hg]; exact hz _ hi
  have hst : (store ((⟨g, o, none⟩ : Addr).add i) v).run P w = .ok () (w.setRow g (cur.setIfInBounds (o + i) v)) := by
   rw [hadd, run_store P w _ v _ (h1 v (by simp)), hcell]
   simp [hfro, setCell_eq_setRow w g (o + i) cur t fz v hg]
  have ih := run_storeCells_any P g o t fz rest (i + 1) (cur.setIfInBounds (o + i) v) (w.setRow g (cur.setIfInBounds (o + i) v)) (setRow_heap w g cur _ t _ hg) (fun j hj => hz j (by simpa using hj)) (by simp at hl ⊢; omega) (fun x hx => h1 x (by simp [hx]))
  simp only [storeCells, Sem.run_bind, hst, Result.andThen_ok, ih, setRow_setRow]
  congr 3
  have e := list_seg_step cur.toList (o + i) v rest (by simp at hl ⊢; omega)
  simpa [Array.toList_setIfInBounds, Nat.add_assoc] using e

theorem run_append_room_at (t ty e : TypeId) (i : TypeInfo) (ht : P.underlying t = some (.slice e)) (hi : P.info? e = some i)
  (g off sLen sCap : Nat) (cur : Array Value) (eb : TypeId) (fz : Nat × Nat) (hg : w.heap[g]? = some (.cells cur eb fz)) (hz : ∀ j, j < cur.size → (decide (fz.1 ≤ j) && decide (j < fz.2)) = false)
  (a : Addr) (m c : Nat) (news : List Value) (hl : news.length = m * i.size) (hnews : ∀ j u, news[j]? = some u → w.cell? (a.add j) = some u) (h1 : ∀ u ∈ news, u.oneCell' = true)
  (hroom : sLen + m ≤ sCap) (hfit : off + sLen * i.size + news.length ≤ cur.size) :
  (Builtin.append_ #[t, t] ty #[.slice (some ⟨g, off, none⟩) sLen sCap, .slice (some a) m c]).run P w =
   .ok (.slice (some ⟨g, off, none⟩) (sLen + m) sCap) (w.setRow g (cur.toList.take (off + sLen * i.size) ++ news ++ cur.toList.drop (off + sLen * i.size + news.length)).toArray) := by
 have hf := run_firstCells_some (P := P) w i.size m a m c news hl hnews
 have hst := run_storeCells_any P g (off + sLen * i.size) eb fz news 0 cur w hg hz (by simpa using hfit) h1
 simp only [Nat.add_zero] at hst
 simp [Builtin.append_, run_underlying ht, sizeOf, typeInfo, hi, Builtin.lenOf, hroom, hf, Addr.add_lit, hst]

theorem run_append_Own (t ty' e : TypeId) (i : TypeInfo) (z : Value) (ht : P.underlying t = some (.slice e)) (hi : P.info? e = some i) (hz : i.zero = some z)
  (hzs : z.cells.size = i.size) (hsz : 0 < i.size)
  (v : Value) (n : Nat) (xs : List Value) (hown : Own w e i.size v n xs)
  (a : Option Addr) (m c : Nat) (hac : a = none → m = 0 ∧ c = 0) (news : List Value) (hl : news.length = m * i.size) (hnews : ∀ ad, a = some ad → ∀ j u, news[j]? = some u → w.cell? (ad.add j) = some u) (h1 : ∀ u ∈ news, u.oneCell' = true)
  (h63 : n + m ≤ maxLen) (hbytes : (n + m) * i.bytes ≤ 140737488355328) :
  ∃ v' w', (Builtin.append_ #[t, t] ty' #[v, .slice a m c]).run P w = .ok v' w' ∧ Own w' e i.size v' (n + m) (xs ++ news) ∧ w.grownBy w' v.ownBlock ∧
   (v'.ownBlock = v.ownBlock ∨ v'.ownBlock = some w.heap.size) := by
 have hlen : (xs ++ news).length = (n + m) * i.size := by rw [List.length_append, hown.1, hl, Nat.add_mul]
 have grown : ∀ (old : Nat), old < n + m → ∀ (row : Option Nat),
   Own (w.drew.alloc (.cells (xs.toArray ++ news.toArray ++ Builtin.zeroCells z.cells (grownCap w (n + m) old e - (n + m))) e)) e i.size
    (.slice (some ⟨w.heap.size, 0, none⟩) (n + m) (grownCap w (n + m) old e)) (n + m) (xs ++ news) ∧
   w.grownBy (w.drew.alloc (.cells (xs.toArray ++ news.toArray ++ Builtin.zeroCells z.cells (grownCap w (n + m) old e - (n + m))) e)) row := by
  intro old ho row
  have hge := grownCap_ge w (n + m) old e
  have hcm : grownCap w (n + m) old e ≤ maxLen := grownCap_le_maxLen w (n + m) old e h63
  refine ⟨⟨hlen, .inr ⟨w.heap.size, 0, _, _, rfl, ⟨_, _, heap_alloc_new w.drew _, .inl rfl⟩, hge, hcm, ?_, ?_⟩⟩, ⟨rfl, rfl, rfl, by simp, fun k hk _ => Go.RowKit.Below.heap_alloc w.drew _ k hk⟩⟩
  ·simp only [Array.size_append, List.size_toArray, size_zeroCells, hzs, hown.1, hl, ← Nat.add_mul, Nat.zero_add]
   exact Nat.mul_le_mul_right _ (by omega)
  ·simp only [Array.toList_append, List.append_assoc, List.drop_zero]
   rw [← List.append_assoc, ← hlen]
   exact List.take_left
 rcases hown.2 with ⟨rfl, rfl⟩ | ⟨g, off, cap, cur, rfl, ⟨eb, fz, hg, hzf⟩, hnc, hcm, hcs, htake⟩
 ·have hx : xs = [] := List.eq_nil_of_length_eq_zero (by simpa using hown.1)
  subst hx
  by_cases hm : m = 0
  ·subst hm
   have hn : news = [] := List.eq_nil_of_length_eq_zero (by simpa using hl)
   subst hn
   refine ⟨.slice none 0 0, w, ?_, Own.nil w e i.size, ⟨rfl, rfl, rfl, Nat.le_refl _, fun _ _ _ => rfl⟩, .inl rfl⟩
   cases a <;> simp [Builtin.append_, run_underlying ht, sizeOf, typeInfo, hi, Builtin.lenOf, Builtin.firstCells, loadCells, loadCellsFrom]
  ·cases a with
   | none => exact absurd (hac rfl).1 hm
   | some ad =>
    have hr := run_append_nil (P := P) w t ty' e i z ht hi hz ad m c news hl (hnews ad rfl) (by omega) (by simp only [maxLen] at h63; omega) (by have hb := hbytes; simp only [Nat.zero_add] at hb; omega)
    have hgr := grown 0 (by omega) (Value.ownBlock (.slice none 0 0))
    simp only [Nat.zero_add, List.nil_append, Array.empty_append] at hgr ⊢
    exact ⟨_, _, hr, hgr.1, hgr.2, .inr rfl⟩
 ·cases a with
  | none =>
   obtain ⟨rfl, rfl⟩ := hac rfl
   have hn : news = [] := List.eq_nil_of_length_eq_zero (by simpa using hl)
   subst hn
   refine ⟨_, w, ?_, by simpa using hown, ⟨rfl, rfl, rfl, Nat.le_refl _, fun _ _ _ => rfl⟩, .inl rfl⟩
   simp [Builtin.append_, run_underlying ht, sizeOf, typeInfo, hi, Builtin.lenOf, Builtin.firstCells, hnc, storeCells]
  | some ad =>
   have hnews' := hnews ad rfl
   by_cases hroom : n + m ≤ cap
   ·have hfit : off + n * i.size + news.length ≤ cur.size := by
     have := Nat.mul_le_mul_right i.size hroom
     rw [hl, Nat.add_assoc, ← Nat.add_mul]; omega
    have hr := run_append_room_at (P := P) t ty' e i ht hi g off n cap cur eb fz hg (fun _ hj => hzf.not hj) ad m c news hl hnews' h1 hroom hfit
    refine ⟨_, _, hr, ⟨hlen, .inr ⟨g, off, cap, _, rfl, ⟨_, _, setRow_heap w g cur _ eb _ hg, by rwa [show (List.toArray (cur.toList.take (off + n * i.size) ++ news ++ cur.toList.drop (off + n * i.size + news.length))).size = cur.size by simp only [List.size_toArray, List.length_append, List.length_take, List.length_drop, Array.length_toList]; omega]⟩, hroom, hcm, ?_, ?_⟩⟩, ⟨rfl, rfl, rfl, by simp, fun k _ hk => setRow_other w g k _ (fun e => hk (by simp [Value.ownBlock, e]))⟩, .inl rfl⟩
    ·simp only [List.size_toArray, List.length_append, List.length_take, List.length_drop, Array.length_toList]
     omega
    ·have hc : off + cap * i.size ≤ cur.toList.length := by rw [Array.length_toList]; exact hcs
     have e1 : cur.toList.take (off + n * i.size) = cur.toList.take off ++ xs := by rw [List.take_add, htake]
     have e2 : (cur.toList.take off).length = off := by rw [List.length_take]; omega
     rw [List.toList_toArray, e1, List.append_assoc, List.append_assoc, List.drop_append_of_le_length (Nat.le_of_eq e2.symm), List.drop_of_length_le (Nat.le_of_eq e2), List.nil_append, ← List.append_assoc, ← hlen]
     exact List.take_left
   ·have holds : ∀ j u, xs[j]? = some u → w.cell? ((⟨g, off, none⟩ : Addr).add j) = some u := fun j u hj => by
     rw [Addr.add_lit]; exact hown.cells rfl j u hj
    have hr := run_append_grow (P := P) w t ty' e i z ht hi hz ⟨g, off, none⟩ n cap xs hown.1 holds ad m c news hl hnews' (by omega) (by simp only [maxLen] at h63; omega) (growslice_fits (by omega) hbytes)
    have hgr := grown cap (by omega) (Value.ownBlock (.slice (some ⟨g, off, none⟩) n cap))
    exact ⟨_, _, hr, hgr.1, hgr.2, .inr rfl⟩
theorem Own.cut (h : Own w e size v n xs) {a : Option Addr} {cap l m : Nat} (hv : v = .slice a n cap) (hlm : l ≤ m) (hm : m ≤ n) :
  Own w e size (.slice (if cap = l then a else a.map (·.add (l * size))) (m - l) (cap - l)) (m - l) ((xs.take (m * size)).drop (l * size)) ∧ (Value.slice (if cap = l then a else a.map (·.add (l * size))) (m - l) (cap - l)).ownBlock = v.ownBlock := by
 subst hv
 have a1 := Nat.mul_le_mul_right size hlm
 have a2 := Nat.mul_le_mul_right size hm
 have hlen : ((xs.take (m * size)).drop (l * size)).length = (m - l) * size := by rw [List.length_drop, List.length_take, h.1, Nat.sub_mul]; omega
 rcases h.2 with ⟨h1, h2⟩ | ⟨g, off, cap', cur, h1, h2, h3, h4, h5, h6⟩
 ·simp only [Value.slice.injEq] at h1
  obtain ⟨rfl, rfl, rfl⟩ := h1
  have hl0 : l = 0 := by omega
  have hm0 : m = 0 := by omega
  subst hl0; subst hm0
  exact ⟨⟨hlen, .inl ⟨by simp, rfl⟩⟩, by simp⟩
 ·simp only [Value.slice.injEq] at h1
  obtain ⟨rfl, _, rfl⟩ := h1
  have a3 := Nat.mul_le_mul_right size h3
  by_cases hc : cap = l
  ·have hml : m = l := by omega
   subst hml
   refine ⟨⟨hlen, .inr ⟨g, off, _, cur, by rw [if_pos hc], h2, by omega, by omega, by rw [hc]; simp; omega, ?_⟩⟩, by rw [if_pos hc]; rfl⟩
   rw [Nat.sub_self, Nat.zero_mul, List.take_zero]
   exact (List.eq_nil_of_length_eq_zero (by rw [hlen]; simp)).symm
  ·have a4 := Nat.mul_le_mul_right size (show l ≤ cap by omega)
   refine ⟨⟨hlen, .inr ⟨g, off + l * size, _, cur, by rw [if_neg hc, Option.map_some, Addr.add_lit], h2, by omega, by omega, by rw [Nat.sub_mul]; omega, ?_⟩⟩, by rw [if_neg hc, Option.map_some, Addr.add_lit]; rfl⟩
   rw [← h6, List.take_take, Nat.min_eq_left a2, ← List.drop_drop, Nat.sub_mul, List.drop_take]
end
end Go.Ab
