/- My own layer: strings.Builder: what its methods do to one that is the call's own. -/
import Derived.Test.YtdocbkbpjdjlpaaGreatDoorAbStr
import Derived.Shelf.Strings.Builder1
set_option linter.unusedVariables false
set_option linter.unusedSimpArgs false
namespace Go.Ab
set_option linter.unusedVariables false
set_option linter.unusedSimpArgs false
open Go.Shelf Go.RowKit Go.Lib Go.Proofs
variable {P : Program} {J : Inv} {ρ : Ren}

structure FrB (w w' : World) (b : Nat) (g : Option Nat) : Prop where
 os : w'.os = w.os
 tape : w'.tape = w.tape
 output : w'.output = w.output
 size : w.heap.size <= w'.heap.size
 block : ∀ k, k < w.heap.size -> k ≠ b -> g ≠ some k -> w'.heap[k]? = w.heap[k]?
theorem FrB.refl (w : World) (b : Nat) (g : Option Nat) : FrB w w b g := ⟨rfl, rfl, rfl, Nat.le_refl _, fun _ _ _ _ => rfl⟩
theorem FrB.trans {w w' w2 : World} {b : Nat} {g : Option Nat} (h : FrB w w' b g) (h' : FrB w' w2 b g) : FrB w w2 b g :=
 ⟨h'.os.trans h.os, h'.tape.trans h.tape, h'.output.trans h.output, Nat.le_trans h.size h'.size, fun k hk h1 h2 => (h'.block k (Nat.lt_of_lt_of_le hk h.size) h1 h2).trans (h.block k hk h1 h2)⟩
theorem FrB.grown {w w' : World} {b : Nat} {g : Option Nat} (h : w.grownBy w' g) : FrB w w' b g :=
 ⟨h.os, h.tape, h.output, h.size, fun k hk _ h2 => h.block k hk fun e => h2 e.symm⟩
theorem FrB.setCell (w : World) (b i : Nat) (x : Value) (g : Option Nat) : FrB w (w.setCell ⟨b, i, none⟩ x) b g :=
 ⟨rfl, rfl, rfl, by simp [World.setCell], fun k _ h1 _ => by
  have h1' : b ≠ k := fun e => h1 e.symm
  simp [World.setCell, Array.getElem?_modify, h1']⟩
theorem FrB.alloc (w : World) (b : Nat) (g : Option Nat) (o : Obj) : FrB w (w.alloc o) b g :=
 ⟨rfl, rfl, rfl, by simp, fun k hk _ _ => Go.RowKit.Below.heap_alloc w o k hk⟩
theorem FrB.drew (w : World) (b : Nat) (g : Option Nat) : FrB w w.drew b g := ⟨rfl, rfl, rfl, Nat.le_refl _, fun _ _ _ _ => rfl⟩
theorem FrB.freeze (w : World) (b g o n : Nat) : FrB w (w.freeze ⟨g, o, none⟩ n) b (some g) := by
 unfold World.freeze
 split
 ·exact FrB.refl _ _ _
 ·exact ⟨rfl, rfl, rfl, by simp, fun k _ _ h2 => by
   have h2' : g ≠ k := fun e => h2 (by rw [e])
   simp [Array.getElem?_modify, h2']⟩
theorem je5 {w : World} {b i : Nat} {cs : Array Value} {T : TypeId} {fr : Nat × Nat} (h : w.heap[b]? = some (.cells cs T fr)) (x : Value) : (w.setCell ⟨b, i, none⟩ x).heap[b]? = some (.cells (cs.setIfInBounds i x) T fr) := by
 simp [World.setCell, Array.getElem?_modify, h]
theorem jgu {w w' : World} {B : Nat} {e : TypeId} {es : Nat} {v : Value} {n : Nat} {xs : List Value} (h : w.ownsRow B e es v n xs) (hb : ∀ k, v.ownBlock = some k -> w'.heap[k]? = w.heap[k]?) : w'.ownsRow B e es v n xs := by
 refine ⟨h.1, ?_⟩
 rcases h.2 with k1 | ⟨g', cap, cur, k1, k0, k2, k3⟩
 ·exact .inl k1
 ·exact .inr ⟨g', cap, cur, k1, k0, by rw [hb g' (by rw [k1]; rfl)]; exact k2, k3⟩

theorem jni (L : Lays.n240 P ρ) (X : Builder.X72 P ρ) (b : Nat) (p v : Value) (w : World) (hbk : w.heap[b]? = some (.cells #[p, v] (ρ.t 72) (0, 0))) (hp : p = .pointer none \/ p = .pointer (some ⟨b, 0, none⟩)) :
  Calls P (ρ.f 240) #[.pointer (some ⟨b, 0, none⟩)] w fun e w' => e = .returned (.tuple #[]) /\ w'.heap[b]? = some (.cells #[.pointer (some ⟨b, 0, none⟩), v] (ρ.t 72) (0, 0)) /\ FrB w w' b none := by
 have c0 : w.cell? ⟨b, 0, none⟩ = some p := by rw [Lib.cell_of_heap hbk]; rfl
 rcases hp with rfl | rfl
 ·refine (Any.Builder_copyCheck_fresh L X b w c0 (by simp [World.shape?, hbk]) (by simp [World.frozen?, hbk])).mono ?_
  rintro e w' ⟨rfl, rfl⟩
  exact ⟨rfl, je5 hbk _, FrB.setCell _ _ _ _ _⟩
 ·refine (Any.Builder_copyCheck_used L X b w c0).mono ?_
  rintro e w' ⟨rfl, rfl⟩
  exact ⟨rfl, hbk, FrB.refl _ _ _⟩

theorem jiu {w : World} (t u ty e : TypeId) (i : TypeInfo) (ht : P.underlying t = some (.slice e)) (hu : P.underlying u = some .string) (hi : P.info? e = some i) (hz : i.zero = some (.int .u8 0)) (hsize : i.size = 1) (hby : i.bytes = 1)
  {v : Value} {n : Nat} {xs : List Value} (hown : w.ownsRow 0 e 1 v n xs) (s : ByteArray) (hbytes : n + s.size <= 140737488355328) {v' : Value} {w' : World} (h : (Builtin.append_ #[t, u] ty #[v, .string s]).run P w = .ok v' w') :
  v'.ownBlock = v.ownBlock \/ v'.ownBlock = some w.heap.size := by
 rcases hown.2 with ⟨rfl, rfl⟩ | ⟨g, cap, cur, rfl, hbg, hg, hnc, hcm, hcs, htake⟩
 ·by_cases hm : s.size = 0
  ·have hf := run_firstCells_string (P := P) w 1 s
   rw [hm] at hf
   simp [Builtin.append_, run_underlying ht, run_underlying hu, sizeOf, typeInfo, hi, hsize, Builtin.lenOf, hm, hf] at h
   left; rw [<- h.1]
  ·have hr := run_append_nil_string (P := P) w t u ty e i (.int .u8 0) ht hu hi hz s (by omega) (by omega) (by rw [hby]; omega)
   rw [hr] at h
   cases h
   exact .inr rfl
 ·by_cases hroom : n + s.size <= cap
  ·have hcs' : cur.size = cap := by simpa using hcs
   have hr := run_append_room_string (P := P) w t u ty e i ht hu hi hsize g n cap cur hg s hroom (by omega)
   rw [hr] at h
   cases h
   exact .inl rfl
  ·have hxl : xs.length = n := by simpa using hown.1
   have hr := run_append_grow_string (P := P) w t u ty e i (.int .u8 0) ht hu hi hz ⟨g, 0, none⟩ n cap xs (by rw [hsize]; simpa using hxl) (hown.cells (g := g) rfl) s (by omega) (by omega) (by rw [hby]; exact growslice_fits (by omega) (by omega))
   rw [hr] at h
   cases h
   exact .inr rfl
theorem joh {w : World} (t ty e : TypeId) (i : TypeInfo) (ht : P.underlying t = some (.slice e)) (hi : P.info? e = some i) (hz : i.zero = some (.int .u8 0)) (hsize : i.size = 1) (hby : i.bytes = 1)
  {v : Value} {n : Nat} {xs : List Value} (hown : w.ownsRow 0 e 1 v n xs) (a : Addr) (m c : Nat) (news : List Value) (hl : news.length = m) (hm : 0 < m) (hnews : ∀ j u, news[j]? = some u -> w.cell? (a.add j) = some u) (h1 : ∀ u ∈ news, u.oneCell' = true) (hbytes : n + m <= 140737488355328) {v' : Value} {w' : World}
  (h : (Builtin.append_ #[t, t] ty #[v, .slice (some a) m c]).run P w = .ok v' w') :
  v'.ownBlock = v.ownBlock \/ v'.ownBlock = some w.heap.size := by
 rcases hown.2 with ⟨rfl, rfl⟩ | ⟨g, cap, cur, rfl, hbg, hg, hnc, hcm, hcs, htake⟩
 ·have hr := run_append_nil (P := P) w t ty e i (.int .u8 0) ht hi hz a m c news (by rw [hsize, Nat.mul_one]; exact hl) hnews hm (by omega) (by rw [hby]; omega)
  rw [hr] at h
  cases h
  exact .inr rfl
 ·by_cases hroom : n + m <= cap
  ·have hcs' : cur.size = cap := by simpa using hcs
   have hr := run_append_room (P := P) w t ty e i ht hi g n cap cur hg a m c news (by rw [hsize, Nat.mul_one]; exact hl) hnews h1 hroom (by rw [hsize]; omega)
   rw [hr] at h
   cases h
   exact .inl rfl
  ·have hxl : xs.length = n := by simpa using hown.1
   have hr := run_append_grow (P := P) w t ty e i (.int .u8 0) ht hi hz ⟨g, 0, none⟩ n cap xs (by rw [hsize]; simpa using hxl) (hown.cells (g := g) rfl) a m c news (by rw [hsize, Nat.mul_one]; exact hl) hnews (by omega) (by omega) (by rw [hby]; exact growslice_fits (by omega) (by omega))
   rw [hr] at h
   cases h
   exact .inr rfl

theorem jkn {w : World} {ops : Array Oper} {rest : List Oper} {o : Oper} {a : Act} {Q : Exit -> Act -> World -> Prop} (hgd : o.guard = none) (sl x : Operand) (t u : TypeId)
  (ho : o.op = .call { callee := .builtin .append, args := #[sl, x], argTypes := #[t, u] }) {v y : Value} (hs : a.eval sl = v) (hx : a.eval x = y) {R : Value -> World -> Prop}
  (hr : ∀ ty, ∃ v' w', (Builtin.append_ #[t, u] ty #[v, y]).run P w = .ok v' w' /\ R v' w') (h : ∀ v' w', R v' w' -> wpList P ops Q rest (a.put o.dst v') w') : wpList P ops Q (o :: rest) a w := by
 refine wpList_plain hgd fun K hK => ?_
 obtain ⟨v', w', hrun, hR⟩ := hr o.type
 unfold Oper.wp execOp
 simp only [ho, resolve, invoke, builtin, Sem.run_bind, Sem.run_pure, Result.andThen_ok, List.map_toArray, List.map_cons, List.map_nil, hs, hx, hrun]
 exact hK _ _ (h v' w' hR)

set_option maxHeartbeats 2000000 in
set_option maxRecDepth 100000 in
theorem jh6 (L : Lays.n166 P ρ) (X : Builder.Extra P ρ) (b : Nat) (p v : Value) (n : Nat) (bs : List Value) (s : ByteArray) (w : World) (hbk : w.heap[b]? = some (.cells #[p, v] (ρ.t 72) (0, 0))) (hp : p = .pointer none \/ p = .pointer (some ⟨b, 0, none⟩))
  (hown : w.ownsRow 0 (ρ.t 5) 1 v n bs) (hne : v.ownBlock ≠ some b) (hlen : n + s.size <= 140737488355328) :
  Calls P (ρ.f 166) #[.pointer (some ⟨b, 0, none⟩), .string s] w fun e w' => e = .returned (.tuple #[.int .i64 s.size, .nilIface]) /\ ∃ v', w'.heap[b]? = some (.cells #[.pointer (some ⟨b, 0, none⟩), v'] (ρ.t 72) (0, 0)) /\ w'.ownsRow 0 (ρ.t 5) 1 v' (n + s.size) (bs ++ strCells s) /\ v'.ownBlock ≠ some b /\ (v'.ownBlock = v.ownBlock \/ ∃ k, w.heap.size <= k /\ v'.ownBlock = some k) /\ FrB w w' b v.ownBlock := by
 obtain ⟨i0, hi, hz0, hz1, hz2⟩ := info_parts X.infoByte
 have mixed := L.mixed
 have t72 := L.t72; have a72 := L.a72; have z72 := L.z72; have v72 := L.v72; have u72 := run_underlying L.t72
 have t70 := L.t70; have a70 := L.a70; have z70 := L.z70; have v70 := L.v70; have u70 := run_underlying L.t70
 have t37 := L.t37; have a37 := L.a37; have z37 := L.z37; have v37 := L.v37; have u37 := run_underlying L.t37
 have t3 := L.t3; have a3 := L.a3; have z3 := L.z3; have v3 := L.v3; have u3 := run_underlying L.t3
 have t9 := L.t9; have a9 := L.a9; have z9 := L.z9; have v9 := L.v9; have u9 := run_underlying L.t9
 have t4 := L.t4; have a4 := L.a4; have z4 := L.z4; have v4 := L.v4; have u4 := run_underlying L.t4
 have t164 := L.t164; have a164 := L.a164; have z164 := L.z164; have v164 := L.v164; have u164 := run_underlying L.t164
 have t5 := X.t5; have a5 := X.a5; have z5 := X.z5; have v5 := X.v5; have u5 := run_underlying X.t5
 have e240 : ∀ args w, (callFunc (ρ.f 240) args).run P w = .ok (.enter (ρ.f 240) args) w := enters_of L.f240 (by kernel_rfl) rfl
 go_enter L.f166, Body.n166_ntmps ρ
 go_wp2_with (go_at_fn (ρ.f 240); refine (jni { L with } X.toX72 b p v _ hbk hp).mono ?_)
 rintro e w1 ⟨rfl, hbk1, hf1⟩
 have hown1 : w1.ownsRow 0 (ρ.t 5) 1 v n bs := jgu hown fun k hk => by
  have hlt : k < w.heap.size := by
   rcases hown.2 with ⟨rfl, _⟩ | ⟨g, cap, cur, rfl, _, hg, _⟩
   ·cases hk
   ·cases hk; exact jcv hg
  exact hf1.block k hlt (fun e => hne (by rw [hk, e])) (by simp)
 have c0 : w1.cell? ⟨b, 0, none⟩ = some (.pointer (some ⟨b, 0, none⟩)) := by rw [Lib.cell_of_heap hbk1]; rfl
 have c1 : w1.cell? ⟨b, 1, none⟩ = some v := by rw [Lib.cell_of_heap hbk1]; rfl
 obtain ⟨R, hR⟩ : ∃ R : Value -> World -> Prop, ∀ v' w', R v' w' ↔ (w'.ownsRow 0 (ρ.t 5) 1 v' (n + s.size) (bs ++ strCells s) /\ w1.grownBy w' v.ownBlock /\ (v'.ownBlock = v.ownBlock \/ v'.ownBlock = some w1.heap.size)) := ⟨_, fun _ _ => Iff.rfl⟩
 go_wp2_with (at_builtin; refine jkn rfl _ _ (ρ.t 37) (ρ.t 9) rfl (v := v) (y := .string s) rfl rfl (R := R) ?c3 ?_)
 case c3 =>
  intro ty
  simp only [hR]
  obtain ⟨v', w', g1, g2, g3, _⟩ := run_append_own_string (P := P) w1 0 (ρ.t 37) (ρ.t 9) ty (ρ.t 5) i0 L.t37 L.t9 hi hz0 hz1 hz2 v n bs hown1 s (by unfold maxLen; omega) (by omega) (Nat.zero_le _)
  exact ⟨v', w', g1, g2, g3, jiu (ρ.t 37) (ρ.t 9) ty (ρ.t 5) i0 L.t37 L.t9 hi hz0 hz1 hz2 hown1 s (by omega) g1⟩
 intro v' w2 hown' hgrow hblk
 have hlt : b < w1.heap.size := jcv hbk1
 have hb2 : w2.heap[b]? = some (.cells #[.pointer (some ⟨b, 0, none⟩), v] (ρ.t 72) (0, 0)) := by
  rw [hgrow.block b hlt (fun e => hne e.symm)]
  exact hbk1
 have hneb : v'.ownBlock ≠ some b := by
  rcases hblk with hblk | hblk
  ·rw [hblk]; exact hne
  ·rw [hblk]; intro e; cases e; omega
 have d0 : w2.cell? ⟨b, 0, none⟩ = some (.pointer (some ⟨b, 0, none⟩)) := by rw [Lib.cell_of_heap hb2]; rfl
 have d1 : w2.cell? ⟨b, 1, none⟩ = some v := by rw [Lib.cell_of_heap hb2]; rfl
 have f1 : w2.frozen? ⟨b, 1, none⟩ = false := Lib.frozen_of_heap hb2 1
 obtain ⟨ao, n', cap, rfl⟩ : ∃ ao n' cap, v' = .slice ao n' cap := by
  rcases hown'.2 with ⟨hv, _⟩ | ⟨g, cap, cur, hv, _⟩
  ·exact ⟨_, _, _, hv⟩
  ·exact ⟨_, _, _, hv⟩
 go_wp2
 go_ret2
 have hfr2 : FrB w1 (w2.setCell ⟨b, 1, none⟩ (.slice ao n' cap)) b v.ownBlock := (FrB.grown hgrow).trans (FrB.setCell _ _ _ _ _)
 refine ⟨rfl, .slice ao n' cap, je5 hb2 _, jgu hown' (fun k hk => (FrB.setCell w2 b 1 (.slice ao n' cap) none).block k ?_ (fun e => hneb (by rw [hk, e])) (by simp)), hneb, ?_, ?_⟩
 ·rcases hown'.2 with ⟨hv, _⟩ | ⟨g, cap, cur, hv, _, hg, _⟩
  ·rw [hv] at hk; cases hk
  ·rw [hv] at hk; cases hk; exact jcv hg
 ·rcases hblk with hblk | hblk
  ·exact .inl hblk
  ·exact .inr ⟨_, hf1.size, hblk⟩
 ·exact (⟨hf1.os, hf1.tape, hf1.output, hf1.size, fun k hk h1 h2 => hf1.block k hk h1 (by simp)⟩ : FrB w w1 b v.ownBlock).trans hfr2

set_option maxHeartbeats 2000000 in
set_option maxRecDepth 100000 in
theorem jkf (L : Lays.n167 P ρ) (X : Builder.Extra P ρ) (b : Nat) (p v : Value) (n : Nat) (bs : List Value) (c : Int) (w : World) (hbk : w.heap[b]? = some (.cells #[p, v] (ρ.t 72) (0, 0))) (hp : p = .pointer none \/ p = .pointer (some ⟨b, 0, none⟩))
  (hown : w.ownsRow 0 (ρ.t 5) 1 v n bs) (hne : v.ownBlock ≠ some b) (hlen : n + 1 <= 140737488355328) :
  Calls P (ρ.f 167) #[.pointer (some ⟨b, 0, none⟩), .int .u8 c] w fun e w' => e = .returned .nilIface /\ ∃ v', w'.heap[b]? = some (.cells #[.pointer (some ⟨b, 0, none⟩), v'] (ρ.t 72) (0, 0)) /\ w'.ownsRow 0 (ρ.t 5) 1 v' (n + 1) (bs ++ [.int .u8 c]) /\ v'.ownBlock ≠ some b /\ (v'.ownBlock = v.ownBlock \/ ∃ k, w.heap.size <= k /\ v'.ownBlock = some k) /\ FrB w w' b v.ownBlock := by
 obtain ⟨i0, hi, hz0, hz1, hz2⟩ := info_parts X.infoByte
 have mixed := L.mixed
 have t72 := L.t72; have a72 := L.a72; have z72 := L.z72; have v72 := L.v72; have u72 := run_underlying L.t72
 have t70 := L.t70; have a70 := L.a70; have z70 := L.z70; have v70 := L.v70; have u70 := run_underlying L.t70
 have t5 := L.t5; have a5 := L.a5; have z5 := L.z5; have v5 := L.v5; have u5 := run_underlying L.t5
 have t37 := L.t37; have a37 := L.a37; have z37 := L.z37; have v37 := L.v37; have u37 := run_underlying L.t37
 have t9 := L.t9; have a9 := L.a9; have z9 := L.z9; have v9 := L.v9; have u9 := run_underlying L.t9
 have t4 := L.t4; have a4 := L.a4; have z4 := L.z4; have v4 := L.v4; have u4 := run_underlying L.t4
 have t164 := L.t164; have a164 := L.a164; have z164 := L.z164; have v164 := L.v164; have u164 := run_underlying L.t164
 have e240 : ∀ args w, (callFunc (ρ.f 240) args).run P w = .ok (.enter (ρ.f 240) args) w := enters_of L.f240 (by kernel_rfl) rfl
 go_enter L.f167, Body.n167_ntmps ρ
 go_wp2_with (go_at_fn (ρ.f 240); refine (jni { L with } X.toX72 b p v _ hbk hp).mono ?_)
 rintro e w1 ⟨rfl, hbk1, hf1⟩
 have hown1 : w1.ownsRow 0 (ρ.t 5) 1 v n bs := jgu hown fun k hk => by
  have hlt : k < w.heap.size := by
   rcases hown.2 with ⟨rfl, _⟩ | ⟨g, cap, cur, rfl, _, hg, _⟩
   ·cases hk
   ·cases hk; exact jcv hg
  exact hf1.block k hlt (fun e => hne (by rw [hk, e])) (by simp)
 have c0 : w1.cell? ⟨b, 0, none⟩ = some (.pointer (some ⟨b, 0, none⟩)) := by rw [Lib.cell_of_heap hbk1]; rfl
 have c1 : w1.cell? ⟨b, 1, none⟩ = some v := by rw [Lib.cell_of_heap hbk1]; rfl
 obtain ⟨w1', hw1'⟩ : ∃ w1', w1' = w1.alloc (.cells #[.int .u8 c] (ρ.t 5)) := ⟨_, rfl⟩
 have hown2 : (w1.alloc (.cells #[.int .u8 c] (ρ.t 5))).ownsRow 0 (ρ.t 5) 1 v n bs := hown1.alloc _
 have hnew : ∀ (j : Nat) (u : Value), [Value.int .u8 c][j]? = some u -> (w1.alloc (.cells #[.int .u8 c] (ρ.t 5))).cell? ((⟨w1.heap.size, 0, none⟩ : Addr).add j) = some u := by
  intro j u hj
  match j, hj with
  | 0, hj => simp at hj; subst hj; simp [Addr.add]
 have hone : ∀ u ∈ [Value.int .u8 c], u.oneCell' = true := by intro u hu; simp at hu; subst hu; rfl
 obtain ⟨R, hR⟩ : ∃ R : Value -> World -> Prop, ∀ v' w', R v' w' ↔ (w'.ownsRow 0 (ρ.t 5) 1 v' (n + 1) (bs ++ [.int .u8 c]) /\ (w1.alloc (.cells #[.int .u8 c] (ρ.t 5))).grownBy w' v.ownBlock /\ (v'.ownBlock = v.ownBlock \/ v'.ownBlock = some (w1.alloc (.cells #[.int .u8 c] (ρ.t 5))).heap.size)) := ⟨_, fun _ _ => Iff.rfl⟩
 go_wp2_with (at_builtin; refine jkn rfl _ _ (ρ.t 37) (ρ.t 37) rfl (v := v) (y := .slice (some ⟨w1.heap.size, 0, none⟩) 1 1) rfl rfl (R := R) ?c3 ?_)
 case c3 =>
  intro ty
  simp only [hR]
  obtain ⟨v', w', g1, g2, g3, _⟩ := run_append_own (P := P) (w1.alloc (.cells #[.int .u8 c] (ρ.t 5))) 0 (ρ.t 37) ty (ρ.t 5) i0 (.int .u8 0) 1 1 L.t37 hi hz0 hz1 hz2 rfl (by decide) v n bs hown2 ⟨w1.heap.size, 0, none⟩ 1 1 [.int .u8 c] rfl hnew hone (by unfold maxLen; omega) (by omega) (Nat.zero_le _)
  exact ⟨v', w', g1, g2, g3, joh (ρ.t 37) ty (ρ.t 5) i0 L.t37 hi hz0 hz1 hz2 hown2 ⟨w1.heap.size, 0, none⟩ 1 1 [.int .u8 c] rfl (by decide) hnew hone (by omega) g1⟩
 intro v' w2 hown' hgrow hblk
 have hlt : b < w1.heap.size := jcv hbk1
 have hb2 : w2.heap[b]? = some (.cells #[.pointer (some ⟨b, 0, none⟩), v] (ρ.t 72) (0, 0)) := by
  rw [hgrow.block b (by simp; omega) (fun e => hne e.symm), Lib.alloc_old w1 _ b hlt]
  exact hbk1
 have hneb : v'.ownBlock ≠ some b := by
  rcases hblk with hblk | hblk
  ·rw [hblk]; exact hne
  ·rw [hblk]; intro e; simp at e; omega
 have d0 : w2.cell? ⟨b, 0, none⟩ = some (.pointer (some ⟨b, 0, none⟩)) := by rw [Lib.cell_of_heap hb2]; rfl
 have d1 : w2.cell? ⟨b, 1, none⟩ = some v := by rw [Lib.cell_of_heap hb2]; rfl
 have f1 : w2.frozen? ⟨b, 1, none⟩ = false := Lib.frozen_of_heap hb2 1
 obtain ⟨ao, n', cap, rfl⟩ : ∃ ao n' cap, v' = .slice ao n' cap := by
  rcases hown'.2 with ⟨hv, _⟩ | ⟨g, cap, cur, hv, _⟩
  ·exact ⟨_, _, _, hv⟩
  ·exact ⟨_, _, _, hv⟩
 go_wp2
 go_ret
 have hfr2 : FrB w1 (w2.setCell ⟨b, 1, none⟩ (.slice ao n' cap)) b v.ownBlock := ((FrB.alloc w1 b v.ownBlock _).trans (FrB.grown hgrow)).trans (FrB.setCell _ _ _ _ _)
 refine ⟨rfl, .slice ao n' cap, je5 hb2 _, jgu hown' (fun k hk => (FrB.setCell w2 b 1 (.slice ao n' cap) none).block k ?_ (fun e => hneb (by rw [hk, e])) (by simp)), hneb, ?_, ?_⟩
 ·rcases hown'.2 with ⟨hv, _⟩ | ⟨g, cap, cur, hv, _, hg, _⟩
  ·rw [hv] at hk; cases hk
  ·rw [hv] at hk; cases hk; exact jcv hg
 ·rcases hblk with hblk | hblk
  ·exact .inl hblk
  ·exact .inr ⟨_, by have := hf1.size; simp; omega, hblk⟩
 ·exact (⟨hf1.os, hf1.tape, hf1.output, hf1.size, fun k hk h1 h2 => hf1.block k hk h1 (by simp)⟩ : FrB w w1 b v.ownBlock).trans hfr2

set_option maxHeartbeats 2000000 in
set_option maxRecDepth 100000 in
theorem jof (L : Lays.n169 P ρ) (X : Builder.Extra P ρ) (b : Nat) (p v : Value) (l : List UInt8) (w : World) (hbk : w.heap[b]? = some (.cells #[p, v] (ρ.t 72) (0, 0)))
  (hown : w.ownsRow 0 (ρ.t 5) 1 v l.length (Lib.byteCells l)) :
  Calls P (ρ.f 169) #[.pointer (some ⟨b, 0, none⟩)] w fun e w' => e = .returned (.string ⟨l.toArray⟩) /\ FrB w w' b v.ownBlock := by
 have hUSn := Any.unsafeString_none L X
 have mixed := L.mixed
 have t72 := L.t72; have a72 := L.a72; have z72 := L.z72; have v72 := L.v72; have u72 := run_underlying L.t72
 have t70 := L.t70; have a70 := L.a70; have z70 := L.z70; have v70 := L.v70; have u70 := run_underlying L.t70
 have t37 := L.t37; have a37 := L.a37; have z37 := L.z37; have v37 := L.v37; have u37 := run_underlying L.t37
 have t127 := L.t127; have a127 := L.a127; have z127 := L.z127; have v127 := L.v127; have u127 := run_underlying L.t127
 have t3 := L.t3; have a3 := L.a3; have z3 := L.z3; have v3 := L.v3; have u3 := run_underlying L.t3
 have t9 := L.t9; have a9 := L.a9; have z9 := L.z9; have v9 := L.v9; have u9 := run_underlying L.t9
 have t5 := X.t5; have a5 := X.a5; have z5 := X.z5; have v5 := X.v5; have u5 := run_underlying X.t5
 have hlt : b < w.heap.size := jcv hbk
 have c1 : w.drew.cell? ⟨b, 1, none⟩ = some v := by
  have : w.drew.heap[b]? = some (.cells #[p, v] (ρ.t 72) (0, 0)) := hbk
  rw [Lib.cell_of_heap this]; rfl
 by_cases h0 : l = []
 ·subst h0
  rcases hown.2 with ⟨rfl, _⟩ | ⟨g, cap, cur, rfl, hbg, hg, _, _, _, _⟩
  ·have hSD : (Builtin.unsafeSliceData_ #[(ρ.t 37)] (ρ.t 127) #[.slice none 0 0]).run P w.drew = .ok (.pointer none) w.drew := rfl
   clear hown
   go_enter L.f169, Body.n169_ntmps ρ
   go_wp2
   go_region_o
   all_goals (go_wp2; go_ret; exact ⟨rfl, FrB.drew _ _ _⟩)
  ·by_cases hc0 : cap = 0
   ·subst hc0
    have hSD : (Builtin.unsafeSliceData_ #[(ρ.t 37)] (ρ.t 127) #[.slice (some ⟨g, 0, none⟩) 0 0]).run P w.drew = .ok (.pointer (some ⟨w.drew.heap.size, 0, none⟩)) (w.drew.alloc (.view ⟨g, 0, none⟩ (ρ.t 5))) :=
     Lib.run_unsafeSliceData_zero w.drew _ _ (ρ.t 5) L.t127 ⟨g, 0, none⟩ 0 ((ρ.t 5), cur.size) (by have hg' : w.drew.heap[g]? = some (.cells cur (ρ.t 5) (0, 0)) := hg; simp [World.shape?, hg'])
    have c2 : (w.drew.alloc (.view ⟨g, 0, none⟩ (ρ.t 5))).cell? ⟨b, 1, none⟩ = some (.slice (some ⟨g, 0, none⟩) 0 0) := by
     have : (w.drew.alloc (.view ⟨g, 0, none⟩ (ρ.t 5))).heap[b]? = _ := (Lib.alloc_old w.drew _ b hlt).trans hbk
     rw [Lib.cell_of_heap this]; rfl
    have c3 : (w.alloc (.view ⟨g, 0, none⟩ (ρ.t 5))).drew.cell? ⟨b, 1, none⟩ = some (.slice (some ⟨g, 0, none⟩) 0 0) := c2
    have c0 : w.cell? ⟨b, 1, none⟩ = some (.slice (some ⟨g, 0, none⟩) 0 0) := c1
    clear hown
    go_enter L.f169, Body.n169_ntmps ρ
    go_wp2
    go_region_o
    all_goals (go_wp2; go_ret; exact ⟨rfl, (FrB.drew _ _ _).trans (FrB.alloc _ _ _ _)⟩)
   ·have hSD : (Builtin.unsafeSliceData_ #[(ρ.t 37)] (ρ.t 127) #[.slice (some ⟨g, 0, none⟩) 0 cap]).run P w.drew = .ok (.pointer (some ⟨g, 0, none⟩)) w.drew :=
     Lib.run_unsafeSliceData_row _ _ _ _ _ _ hc0
    clear hown hc0
    go_enter L.f169, Body.n169_ntmps ρ
    go_wp2
    go_region_o
    all_goals (go_wp2; go_ret; exact ⟨rfl, FrB.drew _ _ _⟩)
 ·have hl0 : l.length ≠ 0 := by simpa using h0
  obtain ⟨g, cap, cur, rfl, hbg, hg, hnc, hcm, hcs, htake⟩ : ∃ g cap cur, v = .slice (some ⟨g, 0, none⟩) l.length cap /\ 0 <= g /\ w.heap[g]? = some (.cells cur (ρ.t 5) (0, 0)) /\ l.length <= cap /\ cap <= maxLen /\ cur.size = cap * 1 /\ cur.toList.take (l.length * 1) = Lib.byteCells l := by
   rcases hown.2 with ⟨_, hz⟩ | ⟨g, cap, cur, hv, r⟩
   ·exact absurd hz hl0
   ·exact ⟨g, cap, cur, hv, r⟩
  have hSD : (Builtin.unsafeSliceData_ #[(ρ.t 37)] (ρ.t 127) #[.slice (some ⟨g, 0, none⟩) l.length cap]).run P w.drew = .ok (.pointer (some ⟨g, 0, none⟩)) w.drew :=
   Lib.run_unsafeSliceData_row _ _ _ _ _ _ (by omega)
  have hUS : (Builtin.unsafeString_ #[(ρ.t 127), (ρ.t 3)] (ρ.t 9) #[.pointer (some ⟨g, 0, none⟩), .int .i64 l.length]).run P w.drew = .ok (.string ⟨l.toArray⟩) (w.drew.freeze ⟨g, 0, none⟩ l.length) := by
   refine Lib.run_unsafeString_row w.drew (ρ.t 127) (ρ.t 3) (ρ.t 9) (ρ.t 5) L.t127 X.cellsByte g cur.size (by have hg' : w.drew.heap[g]? = some (.cells cur (ρ.t 5) (0, 0)) := hg; simp [World.shape?, hg']) l h0 (by omega) (by unfold maxLen at hcm; omega) ?_
   intro j x hx
   have := hown.cells (g := g) rfl j (.int .u8 x.toNat) (by simp [Lib.byteCells, hx])
   exact this
  clear hUSn hown hl0
  go_enter L.f169, Body.n169_ntmps ρ
  go_wp2
  go_region_o
  all_goals (go_wp2; go_ret; exact ⟨rfl, (FrB.drew _ _ _).trans (FrB.freeze _ _ _ _ _)⟩)

inductive NilErr where
 | mk
instance : Enc NilErr := ⟨1, fun _ => .sc .nilIface, fun a b _ => by cases a; cases b; rfl⟩
instance : FlatEnc NilErr := ⟨fun _ => jdu rfl⟩
def Par.bd (T E : Nat) : Par (List UInt8) := ⟨[.bx], fun _ => [.sc undef], fun x => [.bld T E x 0], 1, 1, fun _ => rfl, fun _ => rfl, rfl, fun x y _ h => by
 simpa using h⟩
def Par.bdm (T E : Nat) : Par (List UInt8) := ⟨[.bx], fun _ => [.sc undef], fun x => [.bld T E x 0], 1, 0, fun _ => rfl, fun _ => rfl, rfl, fun x y _ h => by
 simpa using h⟩

theorem jqz {S : FnSpec} {ds : List D} {T E : TypeId} {l l' : List UInt8} {κ : Kap} {F : Nat -> Prop} {w w' : World} {r : AV} {v u : Value} {b : Nat} {p : Value} (hpost : S.post ds [.bld T E l 0] r [] [.bld T E l' 0])
  (hFl : ∀ b, F b -> b < w.heap.size) (hobs : RNew κ F w (fun b => b < w.heap.size /\ ¬ F b) [.bld T E l 0]) (hb : (κ 0).v = .pointer (some ⟨b, 0, none⟩))
  (g1 : w'.heap[b]? = some (.cells #[.pointer (some ⟨b, 0, none⟩), v] T (0, 0))) (g2 : w'.ownsRow 0 E 1 v l'.length (Lib.byteCells l')) (g3 : v.ownBlock ≠ some b) (g4 : v.ownBlock = ((κ 0).r 0 0).ownBlock \/ ∃ k, w.heap.size <= k /\ v.ownBlock = some k) (g5 : FrB w w' b ((κ 0).r 0 0).ownBlock)
  (hv : ∀ κ', RV κ' F w' r u) (hnb : NB (· < 0) r) : ∃ r new obs' κ' κl F', Ret S ds [.bld T E l 0] κ F w u w' r new obs' κ' κl F' := by
 have hvs : ∃ a n c, v = .slice a n c := by
  rcases g2.2 with ⟨h, _⟩ | ⟨g, cap, cur, h, _⟩
  ·exact ⟨_, _, _, h⟩
  ·exact ⟨_, _, _, h⟩
 have h0 := (hobs.ok 0 _ rfl).1
 obtain ⟨b0, p0, k1, k2, k3, k4, k5⟩ := (show jgp w T E (κ 0).v ((κ 0).r 0 0) l from h0)
 have hvs0 : ∃ a n c, (κ 0).r 0 0 = .slice a n c := by
  rcases k4.2 with ⟨h, _⟩ | ⟨g, cap, cur, h, _⟩
  ·exact ⟨_, _, _, h⟩
  ·exact ⟨_, _, _, h⟩
 have bo : ∀ {x : Value}, (∃ a n c, x = .slice a n c) -> blk x = x.ownBlock := by
  rintro x ⟨a, n, c, rfl⟩
  cases a <;> rfl
 have hlb : Lent κ [.bld T E l 0] b := ⟨0, _, rfl, .inl (by rw [hb]; rfl)⟩
 have hlv : ∀ k, ((κ 0).r 0 0).ownBlock = some k -> Lent κ [.bld T E l 0] k := fun k hk => ⟨0, _, rfl, .inr (by show blk ((κ 0).r 0 0) = some k; rw [bo hvs0]; exact hk)⟩
 have hnF : ∀ k, Lent κ [.bld T E l 0] k -> ¬ F k := by
  rintro k ⟨j, x, hj, hk⟩
  exact (hobs.blk j x hj k hk).2
 refine ⟨r, [], [.bld T E l' 0], κ, fun _ => ⟨(κ 0).v, fun _ _ => v⟩, F, hpost, fun _ h => h, fun _ h => .inl h, fun k hk => Nat.lt_of_lt_of_le (hFl k hk) g5.size, ⟨g5.os, g5.tape, g5.output, g5.size, fun k hk => g5.block k hk.1 (fun e => hk.2 (e ▸ hlb)) (fun e => hk.2 (hlv k e))⟩, hv κ, hnb, ?_, ⟨?_, ?_, ?_⟩, ⟨?_, ?_, ?_⟩, ?_⟩
 ·intro i x j y _ hj; simp at hj
 ·intro j x hj; simp at hj
 ·intro j x hj; simp at hj
 ·intro i x j y hi; simp at hi
 ·intro j x hj
  rcases j with _ | j
  ·simp only [List.getElem?_cons_zero, Option.some.injEq] at hj
   subst hj
   exact ⟨⟨b, _, hb, g1, .inr hb.symm, g2, by rw [bo hvs]; exact g3⟩, trivial⟩
  ·simp at hj
 ·intro j x hj k hk
  rcases j with _ | j
  ·simp only [List.getElem?_cons_zero, Option.some.injEq] at hj
   subst hj
   rcases hk with hk | hk
   ·have hk : blk (κ 0).v = some k := hk
    rw [hb] at hk
    cases hk
    exact ⟨.inl hlb, hnF _ hlb⟩
   ·have hk : blk v = some k := hk
    rw [bo hvs] at hk
    rcases g4 with g4 | ⟨k', g4, g6⟩
    ·rw [g4] at hk
     exact ⟨.inl (hlv k hk), hnF _ (hlv k hk)⟩
    ·rw [g6] at hk
     cases hk
     exact ⟨.inr g4, fun hF => absurd (hFl _ hF) (by omega)⟩
  ·simp at hj
 ·intro i x j y hi hj hne
  rcases i with _ | i
  ·rcases j with _ | j
   ·exact absurd rfl hne
   ·simp at hj
  ·simp at hi
 ·intro j hj
  have : j = 0 := by simpa using hj
  subst this; rfl

noncomputable def jco (l : List UInt8) (s : ByteArray) : Option (Int × NilErr × List UInt8) := if l.length + s.size <= 4294967296 then some ((s.size : Int), .mk, l ++ s.data.toList) else none
noncomputable def jga (T E : TypeId) : MS (List UInt8 × ByteArray) (Int × NilErr × List UInt8) :=
 ⟨.x (.bd T E) .r, fun x => jco x.1 x.2, fun y => .tup [dV y.1, dV y.2.1], fun _ => [], fun _ y => [.bld T E y.2.2 0]⟩
theorem jji (L : Lays.n166 P ρ) (X : Builder.Extra P ρ) (hc : ∀ args w, (callFunc (ρ.f 166) args).run P w = .ok (.enter (ρ.f 166) args) w) : FnOK P J (ρ.f 166) (jga (ρ.t 72) (ρ.t 5)).S := by
 refine ⟨hc, ?_⟩
 rintro vs w F ds obs κ ⟨⟨l, s⟩, y, rfl, rfl, hy⟩ hargs hFl hJ hobs
 have hm : jco l s = some y := hy
 unfold jco at hm
 split at hm
 ·rename_i hcond
  cases hm
  have hargs' : RVs κ F w [.ref 0 0, .dat (.sc (.string s))] vs := hargs
  unfold RVs at hargs'
  obtain ⟨v0, r1, rfl, k0, hargs'⟩ := hargs'
  obtain rfl := jmt (us := [.string s]) hargs'
  unfold RV at k0
  obtain ⟨b, k0, rfl⟩ := k0
  have ho := (hobs.ok 0 (.bld (ρ.t 72) (ρ.t 5) l 0) rfl).1
  obtain ⟨b', p, h1, h2, h3, h4, h5⟩ := (show jgp w (ρ.t 72) (ρ.t 5) (κ 0).v ((κ 0).r 0 0) l from ho)
  rw [k0] at h1 h3
  cases h1
  have hne : ((κ 0).r 0 0).ownBlock ≠ some b := by
   rcases h4.2 with ⟨h, _⟩ | ⟨g, cap, cur, h, _⟩
   ·rw [h]; simp [Value.ownBlock]
   ·rw [h] at h5 ⊢; exact h5
  refine Calls.mono (jh6 L X b p _ l.length _ s w h2 h3 h4 hne (by omega)) ?_
  rintro e w' ⟨rfl, v', g1, g2, g3, g4, g5⟩
  refine ⟨_, rfl, jqz (l' := l ++ s.data.toList) (b := b) (p := p) ⟨(l, s), _, rfl, rfl, hy, rfl, rfl, rfl⟩ hFl hobs k0 g1 ?_ g3 g4 g5 (fun κ' => jt1 (us := [.int .i64 s.size, .nilIface]) rfl) (js5 [.int .i64 s.size, .nilIface])⟩
  have e1 : (l ++ s.data.toList).length = l.length + s.size := by rw [List.length_append, <- Lib.size_eq]
  rw [e1]
  have e2 : Lib.byteCells (l ++ s.data.toList) = (l.map fun c => Value.int .u8 c.toNat) ++ strCells s := by
   unfold Lib.byteCells strCells
   rw [List.map_append]
  rw [e2]; exact g2
 ·cases hm

noncomputable def jdm (l : List UInt8) (c : UInt8) : Option (NilErr × List UInt8) := if l.length + 1 <= 4294967296 then some (.mk, l ++ [c]) else none
noncomputable def jiv (T E : TypeId) : MS (List UInt8 × UInt8) (NilErr × List UInt8) :=
 ⟨.x (.bd T E) .r, fun x => jdm x.1 x.2, fun y => dV y.1, fun _ => [], fun _ y => [.bld T E y.2 0]⟩
theorem jlo (L : Lays.n167 P ρ) (X : Builder.Extra P ρ) (hc : ∀ args w, (callFunc (ρ.f 167) args).run P w = .ok (.enter (ρ.f 167) args) w) : FnOK P J (ρ.f 167) (jiv (ρ.t 72) (ρ.t 5)).S := by
 refine ⟨hc, ?_⟩
 rintro vs w F ds obs κ ⟨⟨l, c⟩, y, rfl, rfl, hy⟩ hargs hFl hJ hobs
 have hm : jdm l c = some y := hy
 unfold jdm at hm
 split at hm
 ·rename_i hcond
  cases hm
  have hargs' : RVs κ F w [.ref 0 0, .dat (.sc (.int .u8 c.toNat))] vs := hargs
  unfold RVs at hargs'
  obtain ⟨v0, r1, rfl, k0, hargs'⟩ := hargs'
  obtain rfl := jmt (us := [.int .u8 c.toNat]) hargs'
  unfold RV at k0
  obtain ⟨b, k0, rfl⟩ := k0
  have ho := (hobs.ok 0 (.bld (ρ.t 72) (ρ.t 5) l 0) rfl).1
  obtain ⟨b', p, h1, h2, h3, h4, h5⟩ := (show jgp w (ρ.t 72) (ρ.t 5) (κ 0).v ((κ 0).r 0 0) l from ho)
  rw [k0] at h1 h3
  cases h1
  have hne : ((κ 0).r 0 0).ownBlock ≠ some b := by
   rcases h4.2 with ⟨h, _⟩ | ⟨g, cap, cur, h, _⟩
   ·rw [h]; simp [Value.ownBlock]
   ·rw [h] at h5 ⊢; exact h5
  refine Calls.mono (jkf L X b p _ l.length _ c.toNat w h2 h3 h4 hne (by omega)) ?_
  rintro e w' ⟨rfl, v', g1, g2, g3, g4, g5⟩
  refine ⟨_, rfl, jqz (l' := l ++ [c]) (b := b) (p := p) ⟨(l, c), _, rfl, rfl, hy, rfl, rfl, rfl⟩ hFl hobs k0 g1 ?_ g3 g4 g5 (fun κ' => jo8 rfl) (jmz _)⟩
  rw [List.length_append]
  have e2 : Lib.byteCells (l ++ [c]) = (l.map fun c => Value.int .u8 c.toNat) ++ [.int .u8 c.toNat] := by
   unfold Lib.byteCells
   rw [List.map_append]; rfl
  rw [e2]; exact g2
 ·cases hm

noncomputable def jf7 (l : List UInt8) : Option ByteArray := some ⟨l.toArray⟩
noncomputable def jjd (T E : TypeId) : MS (List UInt8) ByteArray := ⟨.bdm T E, fun x => jf7 x, fun y => dV y, fun _ => [], fun _ _ => []⟩
theorem jme (L : Lays.n169 P ρ) (X : Builder.Extra P ρ) (hc : ∀ args w, (callFunc (ρ.f 169) args).run P w = .ok (.enter (ρ.f 169) args) w) : FnOK P J (ρ.f 169) (jjd (ρ.t 72) (ρ.t 5)).S := by
 refine ⟨hc, ?_⟩
 rintro vs w F ds obs κ ⟨l, y, rfl, rfl, hy⟩ hargs hFl hJ hobs
 have hm : jf7 l = some y := hy
 cases hm
 have hargs' : RVs κ F w [.ref 0 0] vs := hargs
 unfold RVs at hargs'
 obtain ⟨v0, r1, rfl, k0, hargs'⟩ := hargs'
 unfold RVs at hargs'
 subst hargs'
 unfold RV at k0
 obtain ⟨b, k0, rfl⟩ := k0
 have ho := (hobs.ok 0 (.bld (ρ.t 72) (ρ.t 5) l 0) rfl).1
 obtain ⟨b', p, h1, h2, h3, h4, h5⟩ := (show jgp w (ρ.t 72) (ρ.t 5) (κ 0).v ((κ 0).r 0 0) l from ho)
 rw [k0] at h1
 cases h1
 refine Calls.mono (jof L X b p _ l w h2 h4) ?_
 rintro e w' ⟨rfl, g5⟩
 have hvs0 : ∃ a n c, (κ 0).r 0 0 = .slice a n c := by
  rcases h4.2 with ⟨h, _⟩ | ⟨g, cap, cur, h, _⟩
  ·exact ⟨_, _, _, h⟩
  ·exact ⟨_, _, _, h⟩
 refine ⟨_, rfl, .dat (.sc (.string ⟨l.toArray⟩)), [], [], κ, κ, F, ⟨l, _, rfl, rfl, hy, rfl, rfl, rfl⟩, fun _ h => h, fun _ h => .inl h, fun k hk => Nat.lt_of_lt_of_le (hFl k hk) g5.size, ⟨g5.os, g5.tape, g5.output, g5.size, fun k hk => g5.block k hk.1 (fun e => ?_) (fun e => ?_)⟩, jo8 rfl, jmz _, ?_, ⟨?_, ?_, ?_⟩, ⟨?_, ?_, ?_⟩, ?_⟩
 ·exact hk.2 ⟨0, .bld (ρ.t 72) (ρ.t 5) l 0, rfl, .inl (by rw [k0, e]; rfl)⟩
 ·refine hk.2 ⟨0, .bld (ρ.t 72) (ρ.t 5) l 0, rfl, .inr ?_⟩
  show blk ((κ 0).r 0 0) = some k
  obtain ⟨a, n, c, h⟩ := hvs0
  rw [h] at e ⊢
  cases a with
  | none => cases e
  | some a => exact e
 all_goals (intros; simp_all)
end Go.Ab
