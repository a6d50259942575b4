/- My own layer: an argument of a struct type, opened: from the row's reading to data. -/
import Derived.Test.YtjahononbnbjnaaAbLaw
import Derived.ChangeArms
import Derived.OpenShut
import Derived.Carry
namespace Go.Ab
set_option linter.unusedVariables false
set_option linter.unusedSimpArgs false
def LiveB (w : World) (b : Nat) : Prop := b < w.heap.size

/-- Whatever is read at type 't' is a datum of 'α', and 'Q' holds of it. -/
def Tk (P : Program) (α : Type) [Enc α] (Q : α → Prop) (t : TypeId) : Prop :=
  ∀ {H : Type} {enc : TypeId × Value → H} {w : World} {fuel : Nat} {cs : List Value} {x : DataW H × List MemPlace}, DataW.trod enc P w 0 (fun _ => true) true fuel t cs = some x → ∃ a : α, Q a ∧ RC (LiveB w) w (Enc.e a).cells cs

def QI (z : Int) : Prop := -9223372036854775808 ≤ z ∧ z ≤ 9223372036854775807
def QS (s : ByteArray) : Prop := s.size ≤ maxLen
def QL {α : Type} (Q : α → Prop) (l : List α) : Prop := l.length ≤ maxLen ∧ ∀ x ∈ l, Q x

theorem tk_int {P : Program} {t : TypeId} (ht : P.underlying t = some (.int .i64)) : Tk P Int QI t := by
  intro H enc w fuel cs x h
  obtain ⟨n, rfl, _, hw⟩ := DataW.trod_int ht h
  refine ⟨n, bounds_i64 hw, ?_⟩
  show RC _ w [D.sc (.int .i64 n)] [Value.int .i64 n]
  unfold RC
  exact ⟨_, _, rfl, rfl, by unfold RD; exact ⟨rfl, rfl⟩, by unfold RC; rfl⟩
theorem tk_bool {P : Program} {t : TypeId} (ht : P.underlying t = some .bool) : Tk P Bool (fun _ => True) t := by
  intro H enc w fuel cs x h
  obtain ⟨n, rfl⟩ : ∃ b, cs = [.bool b] := by
    cases fuel with
    | zero => simp [DataW.trod] at h
    | succ n =>
      unfold DataW.trod at h
      rw [ht] at h
      split at h <;> simp_all
  refine ⟨n, trivial, ?_⟩
  show RC _ w [D.sc (.bool n)] [Value.bool n]
  unfold RC
  exact ⟨_, _, rfl, rfl, by unfold RD; exact ⟨rfl, rfl⟩, by unfold RC; rfl⟩
theorem tk_str {P : Program} {t : TypeId} (ht : P.underlying t = some .string) : Tk P ByteArray QS t := by
  intro H enc w fuel cs x h
  obtain ⟨s, rfl, _, hw⟩ := DataW.trod_string ht h
  refine ⟨s, hw, ?_⟩
  show RC _ w [D.sc (.string s)] [Value.string s]
  unfold RC
  exact ⟨_, _, rfl, rfl, by unfold RD; exact ⟨rfl, rfl⟩, by unfold RC; rfl⟩

theorem live_cell {w : World} {b off : Nat} {u : Value} (h : w.cell? ⟨b, off, none⟩ = some u) : LiveB w b := by
  rcases Nat.lt_or_ge b w.heap.size with hlt | hge
  · exact hlt
  · exfalso
    have : w.heap[b]? = none := Array.getElem?_eq_none hge
    simp [World.cell?, this] at h

theorem tk_slice {P : Program} {α : Type} [Enc α] {Q : α → Prop} {t e : TypeId} (ht : P.underlying t = some (.slice e)) (hz : P.cellsOf e = Enc.sz α) (hp : 0 < Enc.sz α) (he : Tk P α Q e) : Tk P (List α) (QL Q) t := by
  intro H enc w fuel cs x h
  rcases DataW.trod_slice ht h with ⟨rfl, _⟩ | ⟨a, len, cap, elems, rest, n, rfl, rfl, _, _, hl, hm, hlen, hel, _, _⟩
  · refine ⟨[], ⟨Nat.zero_le _, fun x hx => by simp at hx⟩, ?_⟩
    show RC _ w [D.sl (Enc.sz α) []] [Value.slice none 0 0]
    unfold RC
    refine ⟨_, _, rfl, rfl, ?_, by unfold RC; rfl⟩
    unfold RD
    exact ⟨none, 0, rfl, Nat.le_refl _, by unfold maxLen; omega, fun _ => rfl, .inl rfl⟩
  · rcases Nat.eq_zero_or_pos len with h0 | hpos
    · subst h0
      refine ⟨[], ⟨Nat.zero_le _, fun x hx => by simp at hx⟩, ?_⟩
      show RC _ w [D.sl (Enc.sz α) []] [Value.slice (some a) 0 cap]
      unfold RC
      refine ⟨_, _, rfl, rfl, ?_, by unfold RC; rfl⟩
      unfold RD
      exact ⟨some a, cap, rfl, hl, hm, fun h => by (cases h), .inl rfl⟩
    · rw [hz] at hel
      have hget : ∀ i, i < len → ∃ cs' y, w.cells? 0 (a.add (i * Enc.sz α)) (Enc.sz α) = some cs' ∧ DataW.trod enc P w 0 (fun _ => true) true n e cs' = some y := by
        intro i hi
        have h1 := hel i hi
        rw [List.getElem?_eq_getElem (by omega)] at h1
        obtain ⟨cs', h2, h3⟩ := Option.bind_eq_some_iff.1 h1
        exact ⟨cs', _, h2, h3⟩
      obtain ⟨b, off, spot⟩ := a
      obtain ⟨c0, y0, g0, _⟩ := hget 0 hpos
      obtain ⟨_, l0, m0⟩ := World.cells?_some g0
      have h00 := m0 0 hp
      rw [List.getElem?_eq_getElem (by omega)] at h00
      have hspot : spot = none := by simpa [Addr.add] using World.cell?_spot h00
      subst hspot
      have hlive : LiveB w b := by
        refine live_cell (off := off) (u := c0[0]) ?_
        simpa [Addr.add] using h00
      have key : ∀ k, k ≤ len → ∃ l : List α, l.length = k ∧ (∀ x ∈ l, Q x) ∧ ∃ us : List Value, us.length = k * Enc.sz α ∧ (∀ j u, us[j]? = some u → w.cell? ⟨b, off + j, none⟩ = some u) ∧ RE (LiveB w) w (Enc.sz α) (l.map Enc.e) us := by
        intro k
        induction k with
        | zero => intro _; exact ⟨[], rfl, fun x hx => by simp at hx, [], by simp, fun j u hj => by simp at hj, by simp only [List.map_nil]; unfold RE; rfl⟩
        | succ k ih =>
          intro hk
          obtain ⟨l, i1, i2, us, i3, i4, i5⟩ := ih (by omega)
          obtain ⟨cs', y, k1, k2⟩ := hget k (by omega)
          obtain ⟨_, k3, k4⟩ := World.cells?_some k1
          obtain ⟨ak, k5, k6⟩ := he k2
          refine ⟨l ++ [ak], by simp [i1], fun x hx => ?_, us ++ cs', by rw [List.length_append, i3, k3, Nat.succ_mul], fun j u hj => ?_, ?_⟩
          · rcases List.mem_append.1 hx with hx | hx
            · exact i2 x hx
            · rw [List.mem_singleton] at hx; subst hx; exact k5
          · rcases Nat.lt_or_ge j us.length with hlt | hge
            · rw [List.getElem?_append_left hlt] at hj; exact i4 j u hj
            · rw [List.getElem?_append_right hge] at hj
              have hjl : j - us.length < Enc.sz α := by rw [← k3]; exact (List.getElem?_eq_some_iff.1 hj).1
              have h5 := k4 (j - us.length) hjl
              rw [hj, Addr.add_lit, Addr.add_lit] at h5
              rw [show off + j = off + k * Enc.sz α + (j - us.length) by omega]
              exact h5
          · rw [List.map_append]
            have h1 : RE (LiveB w) w (Enc.sz α) ([ak].map Enc.e) (cs' ++ []) := RE.mk k3 k6 (by simp only [List.map_nil]; unfold RE; rfl)
            rw [List.append_nil] at h1
            exact RE.app i5 h1
      obtain ⟨l, i1, i2, us, i3, i4, i5⟩ := key len (Nat.le_refl _)
      refine ⟨l, ⟨by omega, i2⟩, ?_⟩
      show RC _ w [D.sl (Enc.sz α) (l.map Enc.e)] [Value.slice (some ⟨b, off, none⟩) len cap]
      unfold RC
      refine ⟨_, _, rfl, rfl, ?_, by unfold RC; rfl⟩
      unfold RD
      have hml : (l.map (Enc.e (α := α))).length = len := by rw [List.length_map, i1]
      exact ⟨_, cap, by rw [hml], by rw [hml]; exact hl, hm, fun h => by (cases h), .inr ⟨b, off, us, rfl, hlive, by rw [hml]; exact i3, i4, i5⟩⟩

theorem RC.join {F : Nat → Prop} {w : World} : ∀ {l L : List D} {us vs : List Value}, RC F w l us → RC F w L vs → RC F w (l ++ L) (us ++ vs)
  | [], L, us, vs, h, h' => by unfold RC at h; subst h; exact h'
  | d :: l, L, us, vs, h, h' => by
    unfold RC at h
    obtain ⟨u, us', rfl, h1, h2, h3⟩ := h
    show RC F w (d :: (l ++ L)) (u :: (us' ++ vs))
    unfold RC
    exact ⟨_, _, rfl, h1, h2, RC.join h3 h'⟩
theorem RC.part {F : Nat → Prop} {w : World} {l L : List D} {cs : List Value} {o n : Nat} (h : RC F w l ((cs.drop o).take n)) (h' : RC F w L (cs.drop (o + n))) : RC F w (l ++ L) (cs.drop o) := by
  rw [← List.take_append_drop n (cs.drop o), List.drop_drop]
  exact RC.join h h'
theorem RC.fin {F : Nat → Prop} {w : World} {cs : List Value} {o : Nat} (h : cs.length ≤ o) : RC F w [] (cs.drop o) := by
  unfold RC
  exact List.drop_eq_nil_of_le h
theorem tk_part {P : Program} {α : Type} [Enc α] {Q : α → Prop} {H : Type} {enc : TypeId × Value → H} {w : World} {m i : Nat} {cs : List Value} {xs : List (DataW H × List MemPlace)} {f : Field} (o n : Nat) (hk : Tk P α Q f.type) (ho : f.offset = o) (hn : P.cellsOf f.type = n)
    (h : DataW.trod enc P w 0 (fun _ => true) true m f.type ((cs.drop f.offset).take (P.cellsOf f.type)) = xs[i]?) (hi : i < xs.length) : ∃ a : α, Q a ∧ RC (LiveB w) w (Enc.e a).cells ((cs.drop o).take n) := by
  subst ho; subst hn
  rw [List.getElem?_eq_getElem hi] at h
  exact hk h

/-- A law over a struct. -/
theorem law_walkD {α : Type} [Enc α] {P : Program} {J : Inv} {f : Nat} {m : α → Option Bool} {new : Bool → List Obj'} {ob : α → Bool → List Obj'} {Q : α → Prop}
    (h : FnOK P J f (modS [.rd] (fun x : α => [Enc.e x]) (fun _ => []) m (fun y => .dat (Enc.e y)) new ob)) (ht : ∀ x, Q x → m x = some true)
    (v : Value) (x : α) (hx : Q x) (w : World) (hv : RD (LiveB w) w (Enc.e x) v) (hJ : J.ok w) (hZ : ∀ b, J.Z b → b < w.heap.size) :
    Calls P f #[v] w fun e w' => e = .returned (.bool true) ∧ Go.RowKit.Below w.heap.size w w' := by
  refine (h.2 [v] w (LiveB w) [Enc.e x] [] (fun _ => kv nilSl) ⟨x, true, rfl, rfl, ht x hx⟩ ?_ (fun _ hb => hb) ⟨hJ, fun b hb => hZ b hb⟩ ?_).mono ?_
  · show RVs _ (LiveB w) w [.dat (Enc.e x)] [v]
    unfold RVs
    refine ⟨_, _, rfl, ?_, ?_⟩
    · unfold RV; exact hv
    · unfold RVs; rfl
  · exact ⟨fun j x hj => by simp at hj, fun j x hj => by simp at hj, fun i x j y hi => by simp at hi⟩
  · rintro e w' ⟨v, rfl, r, new', obs', κ', κl, F', ret⟩
    obtain ⟨x', y, h1, h2, h3, rfl, _, _⟩ := ret.post
    have e1 : x' = x := by
      have : [Enc.e x] = [Enc.e x'] := h1
      injection this with this _
      exact (Enc.inj _ _ this).symm
    subst e1
    rw [ht x' hx] at h3; cases h3
    have hrv := ret.rv
    unfold RV at hrv
    have hv : RD F' w' (.sc (.bool true)) v := hrv
    unfold RD at hv
    refine ⟨by rw [hv.1], ?_⟩
    obtain ⟨w1, w2, w3, w4, w5⟩ := ret.wx
    exact ⟨w1, w2, w3, w4, fun k hk => w5 k ⟨hk, by rintro ⟨j, x, hj, _⟩; simp at hj⟩⟩
theorem agg_rd {F : Nat → Prop} {w : World} {l : List D} {cs : Array Value} (h : RC F w l cs.toList) : RD F w (.agg l) (.agg cs) := by
  unfold RD
  exact ⟨cs.toList, by simp, h⟩
end Go.Ab
