/- The plain law: what the models compute, no program in sight. -/
import Derived.Test.YtjahononbnbjnaaTkM
import Derived.Test.YtjahononbnbjnaaAbTot
namespace Go.Proofs.Ytjahononbnbjnaa
open Go Go.Ab
set_option maxHeartbeats 4000000
set_option linter.unusedVariables false
set_option linter.unusedSimpArgs false
/-! The cursor of the draws: it always answers. -/
def Cur (k : Nat) (c : l1Cur) : Prop := 0 ≤ c.at_ ∧ c.at_ ≤ k
theorem Cur.mono {k k' : Nat} {c : l1Cur} (h : Cur k c) (hk : k ≤ k') : Cur k' c := ⟨h.1, by have := h.2; omega⟩
theorem next_ok {k : Nat} {c : l1Cur} (h : Cur k c) (hk : k ≤ 4000000000) : ∃ r, s_l1Cur_next c = some r ∧ Cur (k + 1) r.2 ∧ 0 ≤ r.1 ∧ r.1 ≤ 255 := by
  obtain ⟨h0, h1⟩ := h
  have hw : w64 (c.at_ + 1) = c.at_ + 1 := w64_id (by omega)
  have hcur : ∀ s, Cur (k + 1) ⟨c.code_, w64 (c.at_ + 1), s⟩ := fun s => by rw [hw]; exact ⟨by show 0 ≤ c.at_ + 1; omega, by show c.at_ + 1 ≤ _; omega⟩
  unfold s_l1Cur_next
  have hv : ∃ v, (if (decide (c.at_ < (c.code_.length : Int))) = true then (idx c.code_ c.at_).bind fun e1 => some (w64 ((e1.toNat : Int))) else some 0) = some v ∧ 0 ≤ v ∧ v ≤ 255 := by
    by_cases hlt : c.at_ < c.code_.length
    · obtain ⟨x, hx, _, _⟩ := idx_lt h0 hlt
      have := x.toNat_lt
      refine ⟨(x.toNat : Int), ?_, by omega, by omega⟩
      simp only [hlt, decide_true, if_true, hx, Option.bind_some]
      rw [w64_id (by omega)]
    · exact ⟨0, by simp [hlt], by omega, by omega⟩
  obtain ⟨v, hv, hv0, hv1⟩ := hv
  rw [hv]
  simp only [Option.bind_some]
  split
  · exact ⟨_, rfl, hcur _, hv0, hv1⟩
  · rw [chk_of (by omega)]
    exact ⟨_, rfl, hcur _, and255 _⟩
theorem pick_ok {k : Nat} {c : l1Cur} (n : Int) (h : Cur k c) (hk : k ≤ 3000000000) : ∃ r, s_l1Cur_pick c n = some r ∧ Cur (k + 2) r.2 ∧ 0 ≤ r.1 ∧ (r.1 < n ∨ r.1 = 0) := by
  unfold s_l1Cur_pick
  by_cases hn : n ≤ 1
  · exact ⟨(0, c), by simp [hn], h.mono (by omega), by simp, .inr rfl⟩
  · obtain ⟨r, hr, hc, h0, h1⟩ := next_ok h (by omega)
    have hn' : decide (n ≤ 1) = false := by simpa using hn
    simp only [hn', Bool.false_eq_true, if_false, hr, Option.bind_some]
    have hne : chk (n ≠ 0) = some () := chk_of (by omega)
    by_cases h2 : 200 < n
    · obtain ⟨r', hr', hc', h0', h1'⟩ := next_ok hc (by omega)
      have e1 : w64 (r.1 * 256) = r.1 * 256 := w64_id (by omega)
      have e2 : w64 (r.1 * 256 + r'.1) = r.1 * 256 + r'.1 := w64_id (by omega)
      have h3 := tmod_rng (a := r.1 * 256 + r'.1) (b := n) (by omega) (by omega)
      simp only [h2, decide_true, if_true, hr', Option.bind_some, hne, e1, e2]
      exact ⟨_, rfl, hc'.mono (by omega), h3.1, .inl h3.2⟩
    · have h2' : decide (200 < n) = false := by simpa using h2
      have h3 := tmod_rng (a := r.1) (b := n) (by omega) (by omega)
      simp only [h2', Bool.false_eq_true, if_false, Option.bind_some, hne]
      exact ⟨_, rfl, hc.mono (by omega), h3.1, .inl h3.2⟩
theorem amongw_ok {k : Nat} {c : l1Cur} (l : List Int) (hl : l ≠ []) (h : Cur k c) (hk : k ≤ 3000000000) : ∃ r, s_l1Cur_among_w c l = some r ∧ Cur (k + 2) r.2 ∧ r.1 ∈ l := by
  unfold s_l1Cur_among_w
  obtain ⟨r, hr, hc, h0, h1⟩ := pick_ok (l.length : Int) h hk
  have hpos : 0 < l.length := List.length_pos_iff.2 hl
  obtain ⟨x, hx, _, hm⟩ := idx_lt (l := l) h0 (by omega)
  simp only [hr, Option.bind_some, hx]
  exact ⟨_, rfl, hc, hm⟩
theorem among_ok {k : Nat} {c : l1Cur} (l : List Int) (hl : l ≠ []) (h : Cur k c) (hk : k ≤ 3000000000) : ∃ r, s_l1Cur_among c l = some r ∧ Cur (k + 2) r.2 ∧ r.1 ∈ l := by
  have : s_l1Cur_among c l = s_l1Cur_among_w c l := rfl
  rw [this]; exact amongw_ok l hl h hk
theorem one_ok {k : Nat} {c : l1Cur} (n : Int) (h : Cur k c) (hk : k ≤ 3000000000) : ∃ r, s_l1Cur_one c n = some r ∧ Cur (k + 2) r.2 := by
  unfold s_l1Cur_one
  obtain ⟨r, hr, hc, _, _⟩ := pick_ok n h hk
  simp only [hr, Option.bind_some]
  exact ⟨_, rfl, hc⟩
theorem cur0 (code : List UInt8) : Cur 0 ⟨code, 0, ⟨0⟩⟩ := ⟨by show (0 : Int) ≤ 0; omega, by show (0 : Int) ≤ _; omega⟩
/-! Networks: when they are valid, for the program and for the reference. -/
theorem within_eq (n lo hi : Int) : i_within n lo hi = some (decide (lo ≤ n ∧ n ≤ hi)) := by
  unfold i_within
  by_cases h : lo ≤ n <;> simp [h]
theorem l1In_eq (n lo hi : Int) : s_l1In n lo hi = some (decide (lo ≤ n ∧ n ≤ hi)) := by
  unfold s_l1In
  by_cases h : lo ≤ n <;> simp [h]
/-- Byte i of a name. -/
def ChOK (i : Nat) (c : UInt8) : Prop := (97 ≤ (c.toNat : Int) ∧ (c.toNat : Int) ≤ 122) ∨ (i ≠ 0 ∧ 48 ≤ (c.toNat : Int) ∧ (c.toNat : Int) ≤ 57)
def NameOK (s : ByteArray) : Prop := (1 ≤ s.size ∧ s.size ≤ 8) ∧ ∀ (i : Nat) c, s.data.toList[i]? = some c → ChOK i c
open Classical in
noncomputable instance (s : ByteArray) : Decidable (NameOK s) := Classical.propDecidable _
theorem size_list (s : ByteArray) : s.data.toList.length = s.size := by simp
theorem getD_of {α : Type} {l : List α} {i : Nat} {x d : α} (h : l[i]? = some x) : l.getD i d = x := by rw [List.getD_eq_getElem?_getD, h]; rfl

/-! Searches -/
theorem index_int_eq (l : List Int) (hl : l.length ≤ 4000000000) (v : Int) : slices_Index_int l v = some (fixI (fun e => v == e) l) := by
  unfold slices_Index_int
  refine find_val l (fun e => v == e) (fun i x hx => ?_) (by unfold slices_Index_int_L1; simp)
  have hi := (List.getElem?_eq_some_iff.1 hx).1
  unfold slices_Index_int_L1
  have hlt : decide ((i : Int) < (l.length : Int)) = true := by simp; omega
  simp only [hlt, if_true, idx_nat, hx, Option.bind_some, w64_succ (n := i) (by omega)]
  split <;> rfl
theorem bl_comm (a b : List UInt8) : (a == b) = (b == a) := BEq.comm
/-! Copies, reversed lists, the reversed line. -/
theorem cloneI_eq (l : List Int) (h : l.length ≤ 1000) : slices_Clone_int l = some l := by
  unfold slices_Clone_int
  rw [chk_of (by simp; omega)]; rfl
theorem l1Own_eq (l : List Int) (h : l.length ≤ 1000) : s_l1Own_f l = some l := by
  unfold s_l1Own_f
  rw [chk_of (by simp; omega)]; rfl
theorem reverse_eq (s : List Int) (hs : s.length ≤ 1000) : slices_Reverse_int_w s = some s.reverse := by
  unfold slices_Reverse_int_w
  have e0 : w64 ((s.length : Int) - 1) = (s.length : Int) - 1 := w64_id (by omega)
  rw [e0]
  have h := iter_rule (step := slices_Reverse_int_w_L1) (fun m a => ∃ j : Nat, a.1 = (j : Int) ∧ a.2.1 = (s.length : Int) - 1 - j ∧ m + j = s.length ∧ a.2.2.length = s.length ∧ 2 * j ≤ s.length ∧ ∀ i, i < s.length → a.2.2[i]? = if i < j ∨ s.length ≤ i + j then s[s.length - 1 - i]? else s[i]?) (fun b => b = s.reverse) ?_ (k := s.length) (a := (0, (s.length : Int) - 1, s))
    ⟨0, rfl, by simp, by omega, rfl, by omega, fun i hi => by rw [if_neg (by omega)]⟩
  · obtain ⟨b, hb, rfl⟩ := h
    exact hb
  rintro m ⟨jj, v, s1⟩ ⟨j, hj, hv, hm, hl, h2, ha⟩
  simp only at hj hv hl ha
  subst hj; subst hv
  by_cases hlt : (j : Int) < (s.length : Int) - 1 - j
  · left
    have ev : (s.length : Int) - 1 - j = ((s.length - 1 - j : Nat) : Int) := by omega
    rw [ev]
    have hj1 : j < s1.length := by omega
    have hv1 : s.length - 1 - j < s1.length := by omega
    obtain ⟨e5, he5⟩ := get_ex hj1
    obtain ⟨e4, he4⟩ := get_ex hv1
    have he7 : (s1.set j e4)[s.length - 1 - j]? = some e4 := by
      by_cases hq : j = s.length - 1 - j
      · omega
      · rw [List.getElem?_set_ne hq]; exact he4
    have hd : decide ((j : Int) < ((s.length - 1 - j : Nat) : Int)) = true := by simp; omega
    have ev2 : w64 (((s.length - 1 - j : Nat) : Int) - 1) = (s.length : Int) - 1 - ((j + 1 : Nat) : Int) := by rw [w64_id (by omega)]; omega
    refine ⟨(((j + 1 : Nat) : Int), (s.length : Int) - 1 - ((j + 1 : Nat) : Int), (s1.set j e4).set (s.length - 1 - j) e5), m - 1, ?_, by omega, j + 1, rfl, rfl, by omega, by simpa using hl, by omega, fun i hi => ?_⟩
    · unfold slices_Reverse_int_w_L1
      simp only [hd, if_true, idx_nat, he4, he5, he7, Option.bind_some, Int.toNat_natCast, w64_succ (n := j) (by omega), ev2]
    · show ((s1.set j e4).set (s.length - 1 - j) e5)[i]? = _
      have a4 := ha (s.length - 1 - j) (by omega)
      have a5 := ha j (by omega)
      rw [if_neg (by omega)] at a4 a5
      by_cases hi1 : i = s.length - 1 - j
      · subst hi1
        rw [List.getElem?_set_self (by simp; omega), if_pos (by omega), ← he5, a5]
        congr 1; omega
      · rw [List.getElem?_set_ne (Ne.symm hi1)]
        by_cases hi2 : i = j
        · subst hi2
          rw [List.getElem?_set_self hj1, if_pos (by omega), ← he4, a4]
        · rw [List.getElem?_set_ne (Ne.symm hi2), ha i hi]
          by_cases c : i < j ∨ s.length ≤ i + j
          · rw [if_pos c, if_pos (by omega)]
          · rw [if_neg c, if_neg (by omega)]
  · right
    have hd : decide ((j : Int) < (s.length : Int) - 1 - j) = false := by simpa using hlt
    refine ⟨s1, by unfold slices_Reverse_int_w_L1; simp only [hd, Bool.false_eq_true, if_false], ?_⟩
    apply List.ext_getElem?
    intro i
    by_cases hi : i < s.length
    · rw [ha i hi, List.getElem?_reverse hi]
      by_cases c : i < j ∨ s.length ≤ i + j
      · rw [if_pos c]
      · rw [if_neg c]
        congr 1; omega
    · rw [List.getElem?_eq_none (by omega), List.getElem?_eq_none (by simp; omega)]

/-! What many laws lean on: draws in the style of Tot, lists held against themselves, comparisons. -/
theorem t_pick {k : Nat} {c : l1Cur} (n : Int) (h : Cur k c) (hk : k ≤ 3000000000) : Tot (s_l1Cur_pick c n) fun r => Cur (k + 2) r.2 ∧ 0 ≤ r.1 ∧ (r.1 < n ∨ r.1 = 0) := pick_ok n h hk
theorem t_one {k : Nat} {c : l1Cur} (n : Int) (h : Cur k c) (hk : k ≤ 3000000000) : Tot (s_l1Cur_one c n) fun r => Cur (k + 2) r.2 := one_ok n h hk
theorem t_among {k : Nat} {c : l1Cur} (l : List Int) (hl : l ≠ []) (h : Cur k c) (hk : k ≤ 3000000000) : Tot (s_l1Cur_among c l) fun r => Cur (k + 2) r.2 ∧ r.1 ∈ l := among_ok l hl h hk
theorem t_amongw {k : Nat} {c : l1Cur} (l : List Int) (hl : l ≠ []) (h : Cur k c) (hk : k ≤ 3000000000) : Tot (s_l1Cur_among_w c l) fun r => Cur (k + 2) r.2 ∧ r.1 ∈ l := amongw_ok l hl h hk
theorem rBig_eq (code : List UInt8) : v_rBig code = some (decide (65536 < (code.length : Int))) := rfl
theorem idx0 {α : Type} (l : List α) : idx l 0 = l[0]? := idx_nat l 0
/-! Lists held against themselves (the second half's helpers). -/
theorem rInts_refl (a : List Int) (h : a.length ≤ 100000) : v_rInts a a = some true := by
  unfold v_rInts
  simp only [bne_self_eq_false, Bool.false_eq_true, if_false]
  rw [all_val (hd := Classical.propDecidable _) a (fun _ _ => True) (fun i x hx => ?_) (by unfold v_rInts_L1; simp)]
  · rw [if_pos (fun _ _ _ => trivial)]
  · have hi := get_lt hx
    unfold v_rInts_L1
    have hlt : decide ((i : Int) < (a.length : Int)) = true := by simp; omega
    left
    simp only [hlt, if_true, idx_nat, hx, Option.bind_some, bne_self_eq_false, Bool.false_eq_true, if_false, w64_succ (n := i) (by omega), and_self]
theorem rTable_refl (a : List (List Int)) (h : a.length ≤ 100000) (h2 : ∀ r ∈ a, r.length ≤ 100000) : v_rTable a a = some true := by
  unfold v_rTable
  simp only [bne_self_eq_false, Bool.false_eq_true, if_false]
  rw [all_val (hd := Classical.propDecidable _) a (fun _ _ => True) (fun i x hx => ?_) (by unfold v_rTable_L1; simp)]
  · rw [if_pos (fun _ _ _ => trivial)]
  · have hi := get_lt hx
    unfold v_rTable_L1
    have hlt : decide ((i : Int) < (a.length : Int)) = true := by simp; omega
    left
    simp only [hlt, if_true, idx_nat, hx, Option.bind_some, rInts_refl x (h2 x (List.mem_of_getElem? hx)), Bool.not_true, Bool.false_eq_true, if_false, w64_succ (n := i) (by omega), and_self]
theorem l1Has_eq (l : List Int) (hl : l.length ≤ 100000) (x : Int) : s_l1Has l x = some (decide (x ∈ l)) := by
  unfold s_l1Has
  rw [find_loop l (fun e => e == x) (fun _ => true) (fun i y hy => ?_) (by unfold s_l1Has_L1; simp)]
  · by_cases h : x ∈ l
    · have : l.findIdx? (fun e => e == x) ≠ none := fun hn => by
        have := List.findIdx?_eq_none_iff.1 hn x h
        simp at this
      cases hf : l.findIdx? (fun e => e == x) with
      | none => exact absurd hf this
      | some i => simp [h]
    · have : l.findIdx? (fun e => e == x) = none := List.findIdx?_eq_none_iff.2 fun y hy => by
        simp only [beq_eq_false_iff_ne, ne_eq]
        intro e; subst e; exact h hy
      rw [this]; simp [h]
  · have hi := get_lt hy
    unfold s_l1Has_L1
    have hlt : decide ((i : Int) < (l.length : Int)) = true := by simp; omega
    simp only [hlt, if_true, idx_nat, hy, Option.bind_some, w64_succ (n := i) (by omega)]
    split <;> rfl
/-! Tracks: where a vehicle stands; taking and parking by both. -/
def pl : List (List Int) → Int → Option (Nat × Nat)
  | [], _ => none
  | r :: T, v => match r.findIdx? (fun e => v == e) with
    | some k => some (0, k)
    | none => (pl T v).map fun p => (p.1 + 1, p.2)
theorem pl_cons (r : List Int) (T : List (List Int)) (v : Int) : pl (r :: T) v = match r.findIdx? (fun e => v == e) with | some k => some (0, k) | none => (pl T v).map fun p => (p.1 + 1, p.2) := rfl
theorem fidx_at {r : List Int} {v : Int} {k : Nat} (h : r.findIdx? (fun e => v == e) = some k) : r[k]? = some v := by
  obtain ⟨h1, h2, _⟩ := List.findIdx?_eq_some_iff_getElem.1 h
  rw [List.getElem?_eq_getElem h1, eq_of_beq h2]
theorem fidx_none {r : List Int} {v : Int} (h : r.findIdx? (fun e => v == e) = none) : v ∉ r := fun hm => by
  have := List.findIdx?_eq_none_iff.1 h v hm
  simp at this
theorem pl_at : ∀ {T : List (List Int)} {v : Int} {i k : Nat}, pl T v = some (i, k) → ∃ r, T[i]? = some r ∧ r[k]? = some v
  | [], v, i, k, h => by cases h
  | r :: T, v, i, k, h => by
    unfold pl at h
    cases hf : r.findIdx? (fun e => v == e) with
    | some q => rw [hf] at h; cases h; exact ⟨r, rfl, fidx_at hf⟩
    | none =>
      rw [hf] at h
      cases hp : pl T v with
      | none => rw [hp] at h; cases h
      | some p =>
        rw [hp] at h; cases h
        obtain ⟨s, h1, h2⟩ := pl_at (T := T) (i := p.1) (k := p.2) hp
        exact ⟨s, by simpa using h1, h2⟩
theorem pl_none : ∀ {T : List (List Int)} {v : Int}, pl T v = none → ∀ r ∈ T, v ∉ r
  | [], v, h => by simp
  | r :: T, v, h => by
    unfold pl at h
    cases hf : r.findIdx? (fun e => v == e) with
    | some q => rw [hf] at h; cases h
    | none =>
      rw [hf] at h
      cases hp : pl T v with
      | some p => rw [hp] at h; cases h
      | none =>
        intro s hs
        rcases List.mem_cons.1 hs with rfl | hs
        · exact fidx_none hf
        · exact pl_none hp s hs
theorem pl_no {T : List (List Int)} {v : Int} (h : ∀ r ∈ T, v ∉ r) : pl T v = none := by
  cases hp : pl T v with
  | none => rfl
  | some p =>
    obtain ⟨r, h1, h2⟩ := pl_at (i := p.1) (k := p.2) hp
    exact absurd (List.mem_of_getElem? h2) (h r (List.mem_of_getElem? h1))
/-- One place alone. -/
def InjT (T : List (List Int)) : Prop := ∀ (i i' k k' : Nat) (r r' : List Int) (v : Int), T[i]? = some r → r[k]? = some v → T[i']? = some r' → r'[k']? = some v → i = i' ∧ k = k'
theorem pl_of {T : List (List Int)} (hI : InjT T) {v : Int} {i k : Nat} {r : List Int} (h1 : T[i]? = some r) (h2 : r[k]? = some v) : pl T v = some (i, k) := by
  cases hp : pl T v with
  | none => exact absurd (List.mem_of_getElem? h2) (pl_none hp r (List.mem_of_getElem? h1))
  | some p =>
    obtain ⟨s, g1, g2⟩ := pl_at (i := p.1) (k := p.2) hp
    obtain ⟨rfl, rfl⟩ := hI _ _ _ _ _ _ _ h1 h2 g1 g2
    rfl
/-- Small enough. -/
def DB (S : List Int) (T : List (List Int)) : Prop := S.length ≤ 100 ∧ T.length ≤ 100 ∧ ∀ r ∈ T, r.length ≤ 100
def plv (T : List (List Int)) (v z : Int) : Int × Int := match pl T v with
  | some (i, k) => ((i : Int), (k : Int))
  | none => (-1, z)
theorem drop_at {α : Type} {l : List α} {j : Nat} {x : α} (h : l[j]? = some x) : l.drop j = x :: l.drop (j + 1) := by
  obtain ⟨h1, h2⟩ := List.getElem?_eq_some_iff.1 h
  rw [List.drop_eq_getElem_cons h1, h2]
theorem iplace_eq {T : List (List Int)} (hl : T.length ≤ 100) (hr : ∀ r ∈ T, r.length ≤ 100) (v : Int) : i_placeIn T v = some (plv T v 0) := by
  unfold i_placeIn
  refine Tot.val (.flb (.mono (P := fun r => r = match pl T v with | some (i, k) => .ret ((i : Int), (k : Int)) | none => .go ()) ?_ ?_))
  · refine .iter (fun m w => ∃ j : Nat, w = (j : Int) ∧ m + j = T.length ∧ pl T v = (pl (T.drop j) v).map fun p => (p.1 + j, p.2)) (n := T.length) ⟨0, rfl, rfl, by cases h : pl T v <;> simp [h]⟩ ?_
    rintro m w ⟨j, rfl, hm, hp⟩
    unfold i_placeIn_L1
    dsimp only
    refine .iteP (fun hlt => ?_) (fun hge => .dn ?_)
    · obtain ⟨r, hx⟩ := get_ex (l := T) (i := j) (by omega)
      rw [drop_at hx, pl_cons] at hp
      refine .eq (ixs hx) (.eq (index_int_eq r (by have := hr r (List.mem_of_getElem? hx); omega) v) ?_)
      cases hf : r.findIdx? (fun e => v == e) with
      | some k =>
        rw [hf] at hp
        have e1 : fixI (fun e => v == e) r = (k : Int) := by unfold fixI; rw [hf]
        rw [e1]
        refine .iteP (fun _ => .dn ?_) (fun h => absurd (by omega) h)
        rw [hp]; simp
      | none =>
        rw [hf] at hp
        have e1 : fixI (fun e => v == e) r = -1 := by unfold fixI; rw [hf]
        rw [e1]
        refine .iteP (fun h => absurd h (by omega)) (fun _ => .nx ⟨m - 1, by omega, j + 1, w64_succ (by omega), by omega, ?_⟩)
        rw [hp]
        cases pl (T.drop (j + 1)) v with
        | none => rfl
        | some p => simp; omega
    · have e : j = T.length := by omega
      subst e
      rw [List.drop_length] at hp
      rw [hp]; rfl
  · rintro r rfl
    unfold plv
    cases pl T v with
    | none => exact ⟨fun r h => (by cases h), fun u _ => .ok rfl⟩
    | some p => exact ⟨fun r h => (by cases h; rfl), fun u h => (by cases h)⟩
theorem strack_eq {d : Depot} (hl : d.Tracks.length ≤ 100) (hr : ∀ r ∈ d.Tracks, r.length ≤ 100) (v : Int) : s_l15Track d v = some (plv d.Tracks v (-1)) := by
  unfold s_l15Track
  refine Tot.val (.flb (.mono (P := fun r => r = match pl d.Tracks v with | some (i, k) => .ret ((i : Int), (k : Int)) | none => .go ()) ?_ ?_))
  · refine .iter (fun m w => ∃ j : Nat, w = (j : Int) ∧ m + j = d.Tracks.length ∧ pl d.Tracks v = (pl (d.Tracks.drop j) v).map fun p => (p.1 + j, p.2)) (n := d.Tracks.length) ⟨0, rfl, rfl, by cases h : pl d.Tracks v <;> simp [h]⟩ ?_
    rintro m w ⟨j, rfl, hm, hp⟩
    unfold s_l15Track_L2
    dsimp only
    refine .iteP (fun hlt => ?_) (fun hge => .dn ?_)
    · obtain ⟨r, hx⟩ := get_ex (l := d.Tracks) (i := j) (by omega)
      rw [drop_at hx, pl_cons] at hp
      have hrl := hr r (List.mem_of_getElem? hx)
      have hfe : r.findIdx? (fun e => v == e) = r.findIdx? (fun e => e == v) := by congr 1; funext e; exact BEq.comm
      have hL : iter (s_l15Track_L1 d v (j : Int)) (0 : Int) = some (match r.findIdx? (fun e => e == v) with | some k => .ret (.dn (.ret ((j : Int), (k : Int)))) | none => .go ()) := by
        refine find_loop r (fun e => e == v) (fun k => Lp.dn (Fl.ret ((j : Int), (k : Int)))) (fun k x hk => ?_) ?_
        · have := get_lt hk
          unfold s_l15Track_L1
          dsimp only
          rw [ixs hx, Option.bind_some, if_pos (by rw [decide_eq_true_eq]; omega), Option.bind_some, ixs hk, Option.bind_some, w64_succ (by omega)]
          split <;> rfl
        · unfold s_l15Track_L1
          dsimp only
          rw [ixs hx, Option.bind_some, if_neg (by rw [decide_eq_true_eq]; omega)]
      rw [hL]
      rw [hfe] at hp
      cases hf : r.findIdx? (fun e => e == v) with
      | some k =>
        rw [hf] at hp
        rw [hp]
        exact .dn (by simp)
      | none =>
        rw [hf] at hp
        rw [flb_go, w64_succ (by omega)]
        refine .nx ⟨m - 1, by omega, j + 1, rfl, by omega, ?_⟩
        rw [hp]
        cases pl (d.Tracks.drop (j + 1)) v with
        | none => rfl
        | some p => simp; omega
    · have e : j = d.Tracks.length := by omega
      subst e
      rw [List.drop_length] at hp
      rw [hp]; rfl
  · rintro r rfl
    unfold plv
    cases pl d.Tracks v with
    | none => exact ⟨fun r h => (by cases h), fun u _ => .ok rfl⟩
    | some p => exact ⟨fun r h => (by cases h; rfl), fun u h => (by cases h)⟩
/-- A vehicle that is the last one on its track is taken. -/
def tk (T : List (List Int)) (v : Int) : Option (List (List Int)) := match pl T v with
  | none => none
  | some (i, k) => if (T.getD i []).length = k + 1 then some (T.set i ((T.getD i []).take k)) else none
def pk (S : List Int) (T : List (List Int)) (v t : Int) : Option (List (List Int)) :=
  if 0 ≤ t ∧ t < T.length ∧ ((T.getD t.toNat []).length : Int) < S.getD t.toNat 0 ∧ (1 ≤ v ∧ v ≤ 99) ∧ pl T v = none then some (T.set t.toNat (T.getD t.toNat [] ++ [v])) else none
theorem getDL {α : Type} {l : List α} {i : Nat} {x z : α} (h : l[i]? = some x) : l.getD i z = x := by rw [List.getD_eq_getElem?_getD, h]; rfl
theorem itake_eq {d : Depot} (hb : DB d.Sizes d.Tracks) (v : Int) : i_take_a d v = some (match tk d.Tracks v with | none => (false, d.Tracks) | some T => (true, T)) := by
  unfold i_take_a tk
  rw [iplace_eq hb.2.1 hb.2.2, Option.bind_some]
  unfold plv
  cases hp : pl d.Tracks v with
  | none => simp
  | some p =>
    obtain ⟨i, k⟩ := p
    obtain ⟨r, h1, h2⟩ := pl_at hp
    have hrl := hb.2.2 r (List.mem_of_getElem? h1)
    have hkl := get_lt h2
    dsimp only
    rw [if_neg (by simp), ixs h1, Option.bind_some, w64_id (by omega), getDL h1, Int.toNat_natCast, Int.toNat_natCast, Option.bind_some, Option.bind_some]
    by_cases hc : r.length = k + 1
    · rw [if_pos hc, if_neg (by simp; omega), chk_of ⟨by omega, by omega, by omega⟩]
      rfl
    · rw [if_neg hc, if_pos (by simp; omega)]
/-! Copies; the reference's taking; parking by both; valid depots. -/
theorem own0_eq (l : List Int) (h : l.length ≤ 1000) : s_l1Own l = some l := by
  unfold s_l1Own
  rw [chk_of (by simp; omega)]; rfl
theorem own_t_same (d : Depot) : s_l15Own_t d = s_l15Own d := rfl
theorem sown_eq {d : Depot} (hb : DB d.Sizes d.Tracks) : s_l15Own d = some d := by
  obtain ⟨h1, h2, h3⟩ := hb
  unfold s_l15Own
  rw [l1Own_eq _ (by omega), Option.bind_some, app_loop (fun x : List Int => x) d.Tracks (fun i a x ha hx => ?_) (fun a ha => ?_)]
  · simp only [Option.bind_some, List.map_id', List.nil_append]
  · have hi := get_lt hx
    unfold s_l15Own_L1
    have hlt : decide ((i : Int) < (d.Tracks.length : Int)) = true := by simp; omega
    have hch : ∀ y : List Int, chk (a.length + ([y] : List (List Int)).length ≤ 4294967296) = some () := fun y => chk_of (by simp; omega)
    simp only [hlt, if_true, idx_nat, hx, Option.bind_some, l1Own_eq x (by have := h3 x (List.mem_of_getElem? hx); omega), hch, w64_succ (n := i) (by omega)]
  · unfold s_l15Own_L1; simp
theorem icopyL_eq {T : List (List Int)} (h2 : T.length ≤ 100) (h3 : ∀ r ∈ T, r.length ≤ 100) : i_copyLists T = some T := by
  unfold i_copyLists
  rw [chk_of (by omega), Option.bind_some, fill_loop (fun x : List Int => x) T _ (by simp) (fun i a x y ha hy hx => ?_) (fun a ha => ?_)]
  · simp only [Option.bind_some, List.map_id']
  · have hi := get_lt hx
    unfold i_copyLists_L1
    have hlt : decide ((i : Int) < (T.length : Int)) = true := by simp; omega
    simp only [hlt, if_true, idx_nat, hx, hy, Option.bind_some, cloneI_eq x (by have := h3 x (List.mem_of_getElem? hx); omega), w64_succ (n := i) (by omega), Int.toNat_natCast]
  · unfold i_copyLists_L1; simp
theorem icopy_eq {d : Depot} (hb : DB d.Sizes d.Tracks) : i_copyDepot d = some d := by
  obtain ⟨h1, h2, h3⟩ := hb
  unfold i_copyDepot
  rw [cloneI_eq _ (by omega), Option.bind_some, icopyL_eq h2 h3]; rfl
theorem stake_eq {d : Depot} (hb : DB d.Sizes d.Tracks) (v : Int) : s_l15Take d v = some (match tk d.Tracks v with | none => (d, false) | some T => (⟨d.Sizes, T⟩, true)) := by
  unfold s_l15Take tk
  rw [strack_eq hb.2.1 hb.2.2, Option.bind_some]
  unfold plv
  cases hp : pl d.Tracks v with
  | none => simp
  | some p =>
    obtain ⟨i, k⟩ := p
    obtain ⟨r, h1, h2⟩ := pl_at hp
    have hrl := hb.2.2 r (List.mem_of_getElem? h1)
    have hkl := get_lt h2
    dsimp only
    rw [if_neg (by simp), ixs h1, Option.bind_some, w64_id (by omega), getDL h1, sown_eq hb, Option.bind_some, Option.bind_some, ixs h1]
    by_cases hc : r.length = k + 1
    · rw [if_pos hc, if_neg (by simp; omega), Option.bind_some, chk_of ⟨by omega, by omega, by omega⟩]
      rfl
    · rw [if_neg hc, if_pos (by simp; omega)]
theorem ipark_eq {d : Depot} (hb : DB d.Sizes d.Tracks) (hs : d.Tracks.length = d.Sizes.length) (v t : Int) : i_park_a d v t = some (match pk d.Sizes d.Tracks v t with | none => (false, d.Tracks) | some T => (true, T)) := by
  unfold i_park_a pk
  by_cases h0 : t < 0
  · rw [if_pos (by simpa using h0), if_neg (by omega)]; rfl
  · by_cases h1 : (d.Tracks.length : Int) ≤ t
    · rw [if_neg (by simpa using h0), if_pos (by simpa using h1), if_neg (by omega)]; rfl
    · obtain ⟨r, hr⟩ := get_ex (l := d.Tracks) (i := t.toNat) (by omega)
      obtain ⟨s, hsz⟩ := get_ex (l := d.Sizes) (i := t.toNat) (by omega)
      have hrl := hb.2.2 r (List.mem_of_getElem? hr)
      have e1 : idx d.Tracks t = some r := idx_of (by omega) hr
      have e2 : idx d.Sizes t = some s := idx_of (by omega) hsz
      rw [if_neg (by simpa using h0), if_neg (by simpa using h1), e1, Option.bind_some, e2, Option.bind_some, getDL hr, getDL hsz, within_eq, iplace_eq hb.2.1 hb.2.2]
      by_cases h2 : s ≤ (r.length : Int)
      · rw [if_pos (by simpa using h2), if_neg (by omega)]; rfl
      · rw [if_neg (by simpa using h2)]
        simp only [Option.bind_some]
        by_cases h3 : 1 ≤ v ∧ v ≤ 99
        · rw [if_neg (by simp; omega)]
          unfold plv
          cases hp : pl d.Tracks v with
          | none =>
            dsimp only
            rw [if_neg (by simp), chk_of (by simp; omega), if_pos ⟨by omega, by omega, by omega, h3, rfl⟩]; rfl
          | some p =>
            dsimp only
            rw [if_pos (by simp), if_neg (by simp)]
        · rw [if_pos (by simp; omega), if_neg (by omega)]
theorem spark_eq {d : Depot} (hb : DB d.Sizes d.Tracks) (hs : d.Tracks.length = d.Sizes.length) (hr : ∀ (i : Nat) (r : List Int) (s : Int), d.Tracks[i]? = some r → d.Sizes[i]? = some s → (r.length : Int) ≤ s) (v t : Int) :
    s_l15Park d v t = some (match pk d.Sizes d.Tracks v t with | none => (d, false) | some T => (⟨d.Sizes, T⟩, true)) := by
  unfold s_l15Park pk
  have hb1 := hb.1
  rw [l1In_eq, Option.bind_some, w64_id (by omega), own_t_same, sown_eq hb]
  by_cases h0 : 0 ≤ t ∧ t ≤ (d.Sizes.length : Int) - 1
  · obtain ⟨r, hr1⟩ := get_ex (l := d.Tracks) (i := t.toNat) (by omega)
    obtain ⟨s, hsz⟩ := get_ex (l := d.Sizes) (i := t.toNat) (by omega)
    have hrl := hb.2.2 r (List.mem_of_getElem? hr1)
    have hle := hr _ _ _ hr1 hsz
    have e1 : idx d.Tracks t = some r := idx_of (by omega) hr1
    have e2 : idx d.Sizes t = some s := idx_of (by omega) hsz
    rw [if_neg (by simpa using h0), e1, Option.bind_some, e2, Option.bind_some, getDL hr1, getDL hsz, l1In_eq, strack_eq hb.2.1 hb.2.2]
    by_cases h2 : (r.length : Int) = s
    · rw [if_pos (by simpa using h2), if_neg (by omega)]; rfl
    · rw [if_neg (by simpa using h2)]
      simp only [Option.bind_some]
      by_cases h3 : 1 ≤ v ∧ v ≤ 99
      · rw [if_neg (by simp; omega)]
        unfold plv
        cases hp : pl d.Tracks v with
        | none =>
          dsimp only
          rw [if_neg (by simp), e1, Option.bind_some, chk_of (by simp; omega), if_pos ⟨by omega, by omega, by omega, h3, rfl⟩]; rfl
        | some p =>
          dsimp only
          rw [if_pos (by simp), if_neg (by simp)]
      · rw [if_pos (by simp; omega), if_neg (by omega)]
  · rw [if_pos (by simp; omega), if_neg (by omega)]; rfl
/-- A valid depot. -/
def DI (S : List Int) (T : List (List Int)) : Prop := (1 ≤ S.length ∧ S.length ≤ 4) ∧ T.length = S.length ∧ (∀ (i : Nat) (r : List Int) (s : Int), T[i]? = some r → S[i]? = some s → (0 ≤ s ∧ s ≤ 8) ∧ (r.length : Int) ≤ s) ∧ (∀ r ∈ T, ∀ v ∈ r, 1 ≤ v ∧ v ≤ 99) ∧ T.flatten.Nodup
theorem DI.db {S : List Int} {T : List (List Int)} (h : DI S T) : DB S T := by
  obtain ⟨h1, h2, h3, _⟩ := h
  refine ⟨by omega, by omega, fun r hr => ?_⟩
  obtain ⟨i, hi⟩ := List.getElem?_of_mem hr
  obtain ⟨s, hs⟩ := get_ex (l := S) (i := i) (by have := get_lt hi; omega)
  have := h3 i r s hi hs
  omega
theorem DI.inj {S : List Int} {T : List (List Int)} (h : DI S T) : InjT T := by
  have hn := h.2.2.2.2
  rw [List.Nodup, List.pairwise_flatten] at hn
  obtain ⟨h1, h2⟩ := hn
  have pw : ∀ {α : Type} {R : α → α → Prop} {M : List α}, M.Pairwise R → ∀ {i j : Nat} {a b : α}, i < j → M[i]? = some a → M[j]? = some b → R a b := fun {α R M} h {i j a b} hij ha hb => by
    have := List.pairwise_iff_getElem.1 h i j (get_lt ha) (get_lt hb) hij
    rw [(List.getElem?_eq_some_iff.1 ha).2, (List.getElem?_eq_some_iff.1 hb).2] at this
    exact this
  intro i i' k k' r r' v hr hv hr' hv'
  rcases Nat.lt_trichotomy i i' with hlt | rfl | hlt
  · exact absurd rfl (pw h2 hlt hr hr' v (List.mem_of_getElem? hv) v (List.mem_of_getElem? hv'))
  · rw [hr] at hr'; cases hr'
    have hd := h1 _ (List.mem_of_getElem? hr)
    refine ⟨rfl, ?_⟩
    rcases Nat.lt_trichotomy k k' with hlt | h | hlt
    · exact absurd rfl (pw hd hlt hv hv')
    · exact h
    · exact absurd rfl (pw hd hlt hv' hv)
  · exact absurd rfl (pw h2 hlt hr' hr v (List.mem_of_getElem? hv') v (List.mem_of_getElem? hv))
/-! What taking and parking leave; valid depots by both. -/
theorem set_perm : ∀ {T : List (List Int)} {i : Nat} {r : List Int} (v : Int), T[i]? = some r → (T.set i (r ++ [v])).flatten.Perm (v :: T.flatten)
  | [], i, r, v, h => by simp at h
  | a :: T, 0, r, v, h => by
    simp only [List.getElem?_cons_zero, Option.some.injEq] at h
    subst h
    simp only [List.set_cons_zero, List.flatten_cons, List.append_assoc]
    exact List.perm_middle
  | a :: T, i + 1, r, v, h => by
    simp only [List.getElem?_cons_succ] at h
    simp only [List.set_cons_succ, List.flatten_cons]
    exact ((set_perm v h).append_left a).trans List.perm_middle
theorem flat_mem {T : List (List Int)} {v : Int} : v ∈ T.flatten ↔ ∃ r ∈ T, v ∈ r := List.mem_flatten
theorem pl_none_iff {T : List (List Int)} {v : Int} : pl T v = none ↔ v ∉ T.flatten :=
  ⟨fun h hm => by obtain ⟨r, h1, h2⟩ := flat_mem.1 hm; exact pl_none h r h1 h2, fun h => pl_no fun r h1 h2 => h (flat_mem.2 ⟨r, h1, h2⟩)⟩
theorem tk_some {S : List Int} {T T' : List (List Int)} {v : Int} (hD : DI S T) (h : tk T v = some T') : DI S T' ∧ v ∉ T'.flatten ∧ ∃ (i : Nat) (r : List Int), T[i]? = some (r ++ [v]) ∧ T' = T.set i r := by
  unfold tk at h
  cases hp : pl T v with
  | none => rw [hp] at h; cases h
  | some p =>
    obtain ⟨i, k⟩ := p
    rw [hp] at h
    obtain ⟨r, h1, h2⟩ := pl_at hp
    dsimp only at h
    rw [getDL h1] at h
    by_cases hc : r.length = k + 1
    · rw [if_pos hc] at h
      cases h
      have hr : r = r.take k ++ [v] := by
        rw [← take_succ h2, List.take_of_length_le (by omega)]
      generalize r.take k = q at hr
      subst hr
      have hi := get_lt h1
      have hq : (T.set i q)[i]? = some q := List.getElem?_set_self hi
      have hback : (T.set i q).set i (q ++ [v]) = T := by rw [List.set_set]; exact set_same h1
      have hpm := set_perm v hq
      rw [hback] at hpm
      obtain ⟨d1, d2, d3, d4, d5⟩ := hD
      have hn := hpm.nodup_iff.1 d5
      rw [List.nodup_cons] at hn
      refine ⟨⟨d1, by rw [List.length_set]; exact d2, fun j r' s hr' hs => ?_, fun r' hr' x hx => ?_, hn.2⟩, hn.1, i, q, h1, rfl⟩
      · by_cases hj : j = i
        · subst hj
          rw [hq] at hr'; cases hr'
          have := d3 j _ s h1 hs
          simp only [List.length_append, List.length_singleton] at this
          exact ⟨this.1, by omega⟩
        · rw [List.getElem?_set_ne (Ne.symm hj)] at hr'
          exact d3 j _ s hr' hs
      · have : x ∈ T.flatten := hpm.mem_iff.2 (List.mem_cons_of_mem _ (flat_mem.2 ⟨r', hr', hx⟩))
        obtain ⟨y, y1, y2⟩ := flat_mem.1 this
        exact d4 y y1 x y2
    · rw [if_neg hc] at h; cases h
theorem pk_some {S : List Int} {T T' : List (List Int)} {v t : Int} (hD : DI S T) (h : pk S T v t = some T') : DI S T' ∧ ∃ r : List Int, T[t.toNat]? = some r ∧ T' = T.set t.toNat (r ++ [v]) := by
  unfold pk at h
  split at h
  · rename_i hc
    obtain ⟨h0, h1, h2, h3, h4⟩ := hc
    cases h
    obtain ⟨r, hr⟩ := get_ex (l := T) (i := t.toNat) (by omega)
    rw [getDL hr] at h2 ⊢
    obtain ⟨d1, d2, d3, d4, d5⟩ := hD
    have hpm := set_perm v hr
    have hi := get_lt hr
    refine ⟨⟨d1, by rw [List.length_set]; exact d2, fun j r' s hr' hs => ?_, fun r' hr' x hx => ?_, ?_⟩, r, hr, rfl⟩
    · by_cases hj : j = t.toNat
      · subst hj
        rw [List.getElem?_set_self hi] at hr'; cases hr'
        have := d3 _ _ s hr hs
        rw [getDL hs] at h2
        exact ⟨this.1, by simp; omega⟩
      · rw [List.getElem?_set_ne (Ne.symm hj)] at hr'
        exact d3 j _ s hr' hs
    · have : x ∈ v :: T.flatten := hpm.mem_iff.1 (flat_mem.2 ⟨r', hr', hx⟩)
      rcases List.mem_cons.1 this with rfl | this
      · exact h3
      · obtain ⟨y, y1, y2⟩ := flat_mem.1 this
        exact d4 y y1 x y2
    · exact hpm.nodup_iff.2 (List.nodup_cons.2 ⟨pl_none_iff.1 h4, d5⟩)
  · cases h
/-- What one track must be, behind those seen. -/
def RowP (seen r : List Int) : Prop := (∀ v ∈ r, 1 ≤ v ∧ v ≤ 99) ∧ (seen ++ r).Nodup
theorem rowP_bad {seen r : List Int} {k : Nat} {x : Int} (hk : r[k]? = some x) (h : ¬ (1 ≤ x ∧ x ≤ 99) ∨ x ∈ seen ++ r.take k) : ¬ RowP seen r := by
  rintro ⟨h1, h2⟩
  rcases h with h | h
  · exact h (h1 x (List.mem_of_getElem? hk))
  · have e : seen ++ r = (seen ++ r.take k) ++ x :: r.drop (k + 1) := by rw [List.append_assoc, ← drop_at hk, List.take_append_drop]
    rw [e] at h2
    exact (List.nodup_append.1 h2).2.2 x h x (List.mem_cons_self ..) rfl
theorem rowP_step {seen r : List Int} {k : Nat} {x : Int} (hk : r[k]? = some x) (h : RowP seen (r.take k)) (h1 : 1 ≤ x ∧ x ≤ 99) (h2 : x ∉ seen ++ r.take k) : RowP seen (r.take (k + 1)) := by
  rw [take_succ hk]
  refine ⟨fun v hv => ?_, ?_⟩
  · rcases List.mem_append.1 hv with hv | hv
    · exact h.1 v hv
    · rw [List.mem_singleton.1 hv]; exact h1
  · rw [← List.append_assoc]
    exact List.nodup_append.2 ⟨h.2, by simp, fun a ha b hb => by rw [List.mem_singleton.1 hb]; rintro rfl; exact h2 ha⟩
/-- The marks of those seen. -/
def Marks (a : List Bool) (seen : List Int) : Prop := a.length = 100 ∧ ∀ x : Int, 0 ≤ x → x < 100 → a[x.toNat]? = some (decide (x ∈ seen))
theorem marks_put {a : List Bool} {seen : List Int} {x : Int} (h : Marks a seen) (h0 : 0 ≤ x) : Marks (a.set x.toNat true) (seen ++ [x]) := by
  refine ⟨by rw [List.length_set]; exact h.1, fun y y0 y1 => ?_⟩
  by_cases hxy : y = x
  · subst hxy
    rw [List.getElem?_set_self (by rw [h.1]; omega)]; simp
  · rw [List.getElem?_set_ne (by omega), h.2 y y0 y1]
    congr 1
    simp [hxy]
theorem irow_eq {seen r : List Int} {a : List Bool} (ha : Marks a seen) (hs : seen.Nodup) (hl : r.length ≤ 100) : Tot (iter (i_IsValidDepot_L1 r) ((0 : Int), a)) fun o => (∃ a', o = .go a' ∧ RowP seen r ∧ Marks a' (seen ++ r)) ∨ (o = .ret (.dn (.ret false)) ∧ ¬ RowP seen r) := by
  refine .iter (fun m (st : Int × List Bool) => ∃ k : Nat, m + k = r.length ∧ st.1 = (k : Int) ∧ Marks st.2 (seen ++ r.take k) ∧ RowP seen (r.take k)) (n := r.length) ⟨0, by omega, rfl, by simpa using ha, by simp [RowP]; exact hs⟩ ?_
  rintro m ⟨w, b⟩ ⟨k, hm, hw, hb, hp⟩
  dsimp only at hw hb
  subst hw
  unfold i_IsValidDepot_L1
  dsimp only
  refine .iteP (fun hlt => ?_) (fun hge => .dn ?_)
  · obtain ⟨x, hx⟩ := get_ex (l := r) (i := k) (by omega)
    refine .eq (ixs hx) (.eq (within_eq ..) ?_)
    by_cases h1 : 1 ≤ x ∧ x ≤ 99
    · have hbx := hb.2 x (by omega) (by omega)
      rw [if_neg (by simpa using h1), chk_of ⟨by omega, by omega⟩, Option.bind_some, idx_of (by omega) hbx, Option.bind_some, Option.bind_some]
      by_cases h2 : x ∈ seen ++ r.take k
      · rw [if_pos (by simpa using h2)]
        exact .dn (.inr ⟨rfl, rowP_bad hx (.inr h2)⟩)
      · rw [if_neg (by simpa using h2)]
        refine .nx ⟨m - 1, by omega, k + 1, by omega, w64_succ (by omega), ?_, rowP_step hx hp h1 h2⟩
        rw [take_succ hx, ← List.append_assoc]
        exact marks_put hb (by omega)
    · rw [if_pos (by simp; omega), Option.bind_some, if_pos rfl]
      exact .dn (.inr ⟨rfl, rowP_bad hx (.inl h1)⟩)
  · rw [take_at (by omega)] at hb hp
    exact .inl ⟨b, rfl, hp, hb⟩
theorem srow_eq {d : Depot} {seen r : List Int} {i : Nat} (hr : d.Tracks[i]? = some r) (hs : seen.Nodup) (hl : r.length ≤ 100) (hsl : seen.length ≤ 10000) : Tot (iter (s_l15Good_L1 d (i : Int)) ((0 : Int), seen)) fun o => (o = .go (seen ++ r) ∧ RowP seen r) ∨ (o = .ret (.dn (.ret false)) ∧ ¬ RowP seen r) := by
  refine .iter (fun m (st : Int × List Int) => ∃ k : Nat, m + k = r.length ∧ st.1 = (k : Int) ∧ st.2 = seen ++ r.take k ∧ RowP seen (r.take k)) (n := r.length) ⟨0, by omega, rfl, by simp, by simp [RowP]; exact hs⟩ ?_
  rintro m ⟨w, b⟩ ⟨k, hm, hw, hb, hp⟩
  dsimp only at hw hb
  subst hw; subst hb
  have hlen : (seen ++ r.take k).length ≤ 20000 := by rw [List.length_append, List.length_take]; omega
  unfold s_l15Good_L1
  dsimp only
  refine .eq (ixs hr) (.iteP (fun hlt => .eq (ixs hr) ?_) (fun hge => .dn ?_))
  · obtain ⟨x, hx⟩ := get_ex (l := r) (i := k) (by omega)
    refine .eq (ixs hx) (.eq (l1In_eq ..) ?_)
    by_cases h1 : 1 ≤ x ∧ x ≤ 99
    · rw [if_neg (by simpa using h1), l1Has_eq _ (by omega), Option.bind_some, Option.bind_some]
      by_cases h2 : x ∈ seen ++ r.take k
      · rw [if_pos (by simpa using h2)]
        exact .dn (.inr ⟨rfl, rowP_bad hx (.inr h2)⟩)
      · rw [if_neg (by simpa using h2)]
        refine .chk (by rw [List.length_singleton]; omega) (.nx ⟨m - 1, by omega, k + 1, by omega, w64_succ (by omega), ?_, rowP_step hx hp h1 h2⟩)
        rw [take_succ hx, ← List.append_assoc]
    · rw [if_pos (by simp; omega), Option.bind_some, if_pos rfl]
      exact .dn (.inr ⟨rfl, rowP_bad hx (.inl h1)⟩)
  · rw [take_at (by omega)] at hp ⊢
    exact .inl ⟨rfl, hp⟩
/-- The first tracks are as they should be. -/
def PreP (S : List Int) (T : List (List Int)) (i : Nat) : Prop := (∀ (j : Nat) (r : List Int) (s : Int), j < i → T[j]? = some r → S[j]? = some s → (0 ≤ s ∧ s ≤ 8) ∧ (r.length : Int) ≤ s) ∧ (∀ r ∈ T.take i, ∀ v ∈ r, 1 ≤ v ∧ v ≤ 99) ∧ (T.take i).flatten.Nodup
theorem preP_step {S : List Int} {T : List (List Int)} {i : Nat} {r : List Int} {s : Int} (hr : T[i]? = some r) (hs : S[i]? = some s) (h : PreP S T i) (h1 : 0 ≤ s ∧ s ≤ 8) (h2 : (r.length : Int) ≤ s) (h3 : RowP (T.take i).flatten r) : PreP S T (i + 1) ∧ (T.take (i + 1)).flatten = (T.take i).flatten ++ r := by
  have e : (T.take (i + 1)).flatten = (T.take i).flatten ++ r := by rw [take_succ hr]; simp
  refine ⟨⟨fun j r' s' hj hr' hs' => ?_, fun r' hr' => ?_, by rw [e]; exact h3.2⟩, e⟩
  · by_cases hji : j = i
    · subst hji
      rw [hr] at hr'; cases hr'
      rw [hs] at hs'; cases hs'
      exact ⟨h1, h2⟩
    · exact h.1 j r' s' (by omega) hr' hs'
  · rw [take_succ hr] at hr'
    rcases List.mem_append.1 hr' with hr' | hr'
    · exact h.2.1 r' hr'
    · rw [List.mem_singleton.1 hr']; exact h3.1
theorem preP_bad {S : List Int} {T : List (List Int)} {i : Nat} {r : List Int} {s : Int} (hr : T[i]? = some r) (hs : S[i]? = some s) (h : ¬ (0 ≤ s ∧ s ≤ 8) ∨ ¬ (r.length : Int) ≤ s ∨ ¬ RowP (T.take i).flatten r) : ¬ DI S T := by
  rintro ⟨_, _, d3, d4, d5⟩
  rcases h with h | h | h
  · exact h (d3 i r s hr hs).1
  · exact h (d3 i r s hr hs).2
  · refine h ⟨fun v hv => d4 r (List.mem_of_getElem? hr) v hv, ?_⟩
    have e : T.flatten = ((T.take i).flatten ++ r) ++ (T.drop (i + 1)).flatten := by
      rw [List.append_assoc, ← List.flatten_cons, ← drop_at hr, ← List.flatten_append, List.take_append_drop]
    rw [e] at d5
    exact (List.nodup_append.1 d5).1
theorem preP_flat_len {T : List (List Int)} (hl : T.length ≤ 100) (hr : ∀ r ∈ T, r.length ≤ 100) (i : Nat) : (T.take i).flatten.length ≤ 10000 := by
  have key : ∀ (M : List (List Int)), (∀ r ∈ M, r.length ≤ 100) → M.flatten.length ≤ M.length * 100 := by
    intro M
    induction M with
    | nil => simp
    | cons a M ih =>
      intro h
      have h1 := h a (List.mem_cons_self ..)
      have h2 := ih fun r hr => h r (List.mem_cons_of_mem _ hr)
      simp only [List.flatten_cons, List.length_append, List.length_cons]; omega
  have := key (T.take i) fun r h => hr r (List.mem_of_mem_take h)
  have h2 : (T.take i).length ≤ 100 := by rw [List.length_take]; omega
  omega
theorem ivalid_eq {d : Depot} (hb : DB d.Sizes d.Tracks) : i_IsValidDepot d = some (@decide (DI d.Sizes d.Tracks) (Classical.propDecidable _)) := by
  unfold i_IsValidDepot
  obtain ⟨b1, b2, b3⟩ := hb
  rw [within_eq, Option.bind_some]
  by_cases h1 : 1 ≤ (d.Sizes.length : Int) ∧ (d.Sizes.length : Int) ≤ 4
  · rw [if_neg (by simpa using h1), Option.bind_some]
    by_cases h2 : d.Tracks.length = d.Sizes.length
    · rw [if_neg (by simp; omega)]
      refine Tot.val (.flb (.mono (P := fun o => (o = .go () ∧ DI d.Sizes d.Tracks) ∨ (o = .ret false ∧ ¬ DI d.Sizes d.Tracks)) ?_ ?_))
      · refine .iter (fun m (st : Int × List Bool) => ∃ i : Nat, m + i = d.Sizes.length ∧ st.1 = (i : Int) ∧ Marks st.2 (d.Tracks.take i).flatten ∧ PreP d.Sizes d.Tracks i) (n := d.Sizes.length) ⟨0, by omega, rfl, ⟨by simp, fun x x0 x1 => by rw [List.getElem?_replicate, if_pos (by omega)]; simp⟩, ⟨fun j r s h => by omega, by simp, by simp⟩⟩ ?_
        rintro m ⟨w, a⟩ ⟨i, hm, hw, ha, hp⟩
        dsimp only at hw ha
        subst hw
        unfold i_IsValidDepot_L2
        dsimp only
        refine .iteP (fun hlt => ?_) (fun hge => .dn (.inl ⟨rfl, ?_⟩))
        · obtain ⟨s, hs⟩ := get_ex (l := d.Sizes) (i := i) (by omega)
          obtain ⟨r, hr⟩ := get_ex (l := d.Tracks) (i := i) (by omega)
          refine .eq (ixs hs) (.eq (within_eq ..) ?_)
          by_cases c1 : 0 ≤ s ∧ s ≤ 8
          · rw [if_neg (by simpa using c1), ixs hr, Option.bind_some, Option.bind_some]
            by_cases c2 : (r.length : Int) ≤ s
            · rw [if_neg (by simp; omega), Option.bind_some]
              refine .flb ((irow_eq ha hp.2.2 (b3 r (List.mem_of_getElem? hr))).mono fun o ho => ⟨fun q hq => ?_, fun q hq => ?_⟩)
              · rcases ho with ⟨a', ho, _⟩ | ⟨ho, hn⟩
                · rw [ho] at hq; cases hq
                · rw [ho] at hq; cases hq
                  exact ⟨fun a' e => (by cases e), fun b e => (by cases e; exact .inr ⟨rfl, preP_bad hr hs (.inr (.inr hn))⟩)⟩
              · rcases ho with ⟨a', ho, hR, hM⟩ | ⟨ho, hn⟩
                · rw [ho] at hq; cases hq
                  obtain ⟨g1, g2⟩ := preP_step hr hs hp c1 c2 hR
                  exact .nx ⟨m - 1, by omega, i + 1, by omega, w64_succ (by omega), by rw [g2]; exact hM, g1⟩
                · rw [ho] at hq; cases hq
            · rw [if_pos (by simp; omega)]
              exact .dn (.inr ⟨rfl, preP_bad hr hs (.inr (.inl c2))⟩)
          · rw [if_pos (by simp; omega), Option.bind_some, if_pos rfl]
            exact .dn (.inr ⟨rfl, preP_bad hr hs (.inl c1)⟩)
        · have e : i = d.Sizes.length := by omega
          subst e
          obtain ⟨p1, p2, p3⟩ := hp
          rw [take_at (by omega)] at p2 p3
          exact ⟨by omega, h2, fun j r s hr hs => p1 j r s (get_lt hs) hr hs, p2, p3⟩
      · rintro o (⟨rfl, h⟩ | ⟨rfl, h⟩)
        · exact ⟨fun r e => (by cases e), fun u _ => .ok (by simp [h])⟩
        · exact ⟨fun r e => (by cases e; simp [h]), fun u e => (by cases e)⟩
    · rw [if_pos (by simp; omega)]
      have : ¬ DI d.Sizes d.Tracks := fun h => h2 h.2.1
      simp [this]
  · rw [if_pos (by simp; omega), Option.bind_some, if_pos rfl]
    have : ¬ DI d.Sizes d.Tracks := fun h => h1 (by have := h.1; omega)
    simp [this]
theorem svalid_eq {d : Depot} (hb : DB d.Sizes d.Tracks) : s_l15Good d = some (@decide (DI d.Sizes d.Tracks) (Classical.propDecidable _)) := by
  unfold s_l15Good
  obtain ⟨b1, b2, b3⟩ := hb
  rw [l1In_eq, Option.bind_some]
  by_cases h1 : 1 ≤ (d.Sizes.length : Int) ∧ (d.Sizes.length : Int) ≤ 4
  · rw [if_neg (by simpa using h1), Option.bind_some]
    by_cases h2 : d.Tracks.length = d.Sizes.length
    · rw [if_neg (by simp; omega)]
      refine Tot.val (.flb (.mono (P := fun o => (o = .go () ∧ DI d.Sizes d.Tracks) ∨ (o = .ret false ∧ ¬ DI d.Sizes d.Tracks)) ?_ ?_))
      · refine .iter (fun m (st : Int × List Int) => ∃ i : Nat, m + i = d.Sizes.length ∧ st.1 = (i : Int) ∧ st.2 = (d.Tracks.take i).flatten ∧ PreP d.Sizes d.Tracks i) (n := d.Sizes.length) ⟨0, by omega, rfl, by simp, ⟨fun j r s h => by omega, by simp, by simp⟩⟩ ?_
        rintro m ⟨w, a⟩ ⟨i, hm, hw, ha, hp⟩
        dsimp only at hw ha
        subst hw; subst ha
        unfold s_l15Good_L2
        dsimp only
        refine .iteP (fun hlt => ?_) (fun hge => .dn (.inl ⟨rfl, ?_⟩))
        · obtain ⟨s, hs⟩ := get_ex (l := d.Sizes) (i := i) (by omega)
          obtain ⟨r, hr⟩ := get_ex (l := d.Tracks) (i := i) (by omega)
          refine .eq (ixs hs) (.eq (l1In_eq ..) ?_)
          by_cases c1 : 0 ≤ s ∧ s ≤ 8
          · rw [if_neg (by simpa using c1), ixs hr, Option.bind_some, ixs hs, Option.bind_some, Option.bind_some]
            by_cases c2 : (r.length : Int) ≤ s
            · rw [if_neg (by simp; omega)]
              refine .flb ((srow_eq hr hp.2.2 (b3 r (List.mem_of_getElem? hr)) (preP_flat_len b2 b3 i)).mono fun o ho => ⟨fun q hq => ?_, fun q hq => ?_⟩)
              · rcases ho with ⟨ho, _⟩ | ⟨ho, hn⟩
                · rw [ho] at hq; cases hq
                · rw [ho] at hq; cases hq
                  exact ⟨fun a' e => (by cases e), fun b e => (by cases e; exact .inr ⟨rfl, preP_bad hr hs (.inr (.inr hn))⟩)⟩
              · rcases ho with ⟨ho, hR⟩ | ⟨ho, hn⟩
                · rw [ho] at hq; cases hq
                  obtain ⟨g1, g2⟩ := preP_step hr hs hp c1 c2 hR
                  exact .nx ⟨m - 1, by omega, i + 1, by omega, w64_succ (by omega), g2.symm, g1⟩
                · rw [ho] at hq; cases hq
            · rw [if_pos (by simp; omega)]
              exact .dn (.inr ⟨rfl, preP_bad hr hs (.inr (.inl c2))⟩)
          · rw [if_pos (by simp; omega), Option.bind_some, if_pos rfl]
            exact .dn (.inr ⟨rfl, preP_bad hr hs (.inl c1)⟩)
        · have e : i = d.Sizes.length := by omega
          subst e
          obtain ⟨p1, p2, p3⟩ := hp
          rw [take_at (by omega)] at p2 p3
          exact ⟨by omega, h2, fun j r s hr hs => p1 j r s (get_lt hs) hr hs, p2, p3⟩
      · rintro o (⟨rfl, h⟩ | ⟨rfl, h⟩)
        · exact ⟨fun r e => (by cases e), fun u _ => .ok (by simp [h])⟩
        · exact ⟨fun r e => (by cases e; simp [h]), fun u e => (by cases e)⟩
    · rw [if_pos (by simp; omega)]
      have : ¬ DI d.Sizes d.Tracks := fun h => h2 h.2.1
      simp [this]
  · rw [if_pos (by simp; omega), Option.bind_some, if_pos rfl]
    have : ¬ DI d.Sizes d.Tracks := fun h => h1 (by have := h.1; omega)
    simp [this]
/-! The first list of tracks with which all moves are performed, by both; moves that are performed. -/
def asg (S : List Int) : List (List Int) → List Move → Option (List Int)
  | _, [] => some []
  | T, m :: l => if m.Out then (match tk T m.Vehicle with | none => none | some T' => asg S T' l)
    else (List.range T.length).findSome? fun (t : Nat) => match pk S T m.Vehicle (t : Int) with
      | none => none
      | some T' => (asg S T' l).map fun r => (t : Int) :: r
def ansA : Option (List Int) → List Int × Bool
  | none => ([], false)
  | some r => (r, true)
theorem asg_out {S : List Int} {T : List (List Int)} {m : Move} {l : List Move} (h : m.Out = true) : asg S T (m :: l) = match tk T m.Vehicle with | none => none | some T' => asg S T' l := by
  rw [asg, if_pos h]
theorem asg_in {S : List Int} {T : List (List Int)} {m : Move} {l : List Move} (h : m.Out = false) : asg S T (m :: l) = (List.range T.length).findSome? fun (t : Nat) => match pk S T m.Vehicle (t : Int) with
      | none => none
      | some T' => (asg S T' l).map fun r => (t : Int) :: r := by
  rw [asg, if_neg (by simp [h])]
theorem asg_len {S : List Int} : ∀ {l : List Move} {T : List (List Int)} {r : List Int}, asg S T l = some r → r.length ≤ l.length
  | [], T, r, h => by unfold asg at h; cases h; simp
  | m :: l, T, r, h => by
    by_cases ho : m.Out = true
    · rw [asg_out ho] at h
      split at h
      · cases h
      · have := asg_len h; simp; omega
    · rw [asg_in (by simpa using ho)] at h
      obtain ⟨t, _, h⟩ := List.exists_of_findSome?_eq_some h
      split at h
      · cases h
      · obtain ⟨q, hq, rfl⟩ := Option.map_eq_some_iff.1 h
        have := asg_len hq; simp; omega
def ansF {R : Type} : Option R → Fl R Unit
  | some r => .ret r
  | none => .go ()
/-- A loop that takes the first answer. -/
theorem some_loop {R : Type} (n : Nat) (f : Nat → Option R) {step : Int → Option (Lp Int (Fl R Unit))}
    (hstep : ∀ i : Nat, i < n → step (i : Int) = some (match f i with | some r => .dn (.ret r) | none => .nx ((i + 1 : Nat) : Int))) (hend : step (n : Int) = some (.dn (.go ()))) :
    iter step 0 = some (ansF ((List.range n).findSome? f)) := by
  have h := iter_rule (step := step) (fun m v => ∃ i : Nat, v = (i : Int) ∧ m + i = n ∧ ∀ j, j < i → f j = none) (fun b => b = ansF ((List.range n).findSome? f)) ?_ (k := n) (a := 0) ⟨0, rfl, by omega, fun j hj => by omega⟩
  · obtain ⟨b, hb, rfl⟩ := h
    exact hb
  rintro m v ⟨i, rfl, hm, ha⟩
  by_cases hlt : i < n
  · cases hf : f i with
    | some r =>
      right
      refine ⟨_, by rw [hstep i hlt, hf], ?_⟩
      have : (List.range n).findSome? f = some r := by
        have e : List.range n = List.range i ++ i :: (List.range' (i + 1) (n - i - 1)) := by
          rw [List.range_eq_range', List.range_eq_range', ← List.range'_succ, show n - i - 1 + 1 = n - i by omega]
          have := List.range'_append_1 (s := 0) (m := i) (n := n - i)
          rw [Nat.zero_add] at this
          rw [this, show i + (n - i) = n by omega]
        rw [e, List.findSome?_append]
        have : (List.range i).findSome? f = none := List.findSome?_eq_none_iff.2 fun x hx => ha x (List.mem_range.1 hx)
        rw [this, List.findSome?_cons, hf]; rfl
      rw [this]; rfl
    | none =>
      left
      refine ⟨_, m - 1, by rw [hstep i hlt, hf], by omega, i + 1, rfl, by omega, fun j hj => ?_⟩
      by_cases hji : j = i
      · subst hji; exact hf
      · exact ha j (by omega)
  · right
    have e : i = n := by omega
    subst e
    refine ⟨_, hend, ?_⟩
    have : (List.range i).findSome? f = none := List.findSome?_eq_none_iff.2 fun x hx => ha x (List.mem_range.1 hx)
    rw [this]; rfl
theorem iassign_eq {S : List Int} : ∀ {n : Nat} {l : List Move} {T : List (List Int)}, l.length < n → l.length ≤ 1000 → DI S T → i_assign_k n ⟨S, T⟩ l = some (ansA (asg S T l))
  | 0, l, T, h, _, _ => by omega
  | n + 1, l, T, h, hl, hD => by
    show i_assign_F (i_assign_k n) ⟨S, T⟩ l = _
    unfold i_assign_F
    rw [icopy_eq (d := ⟨S, T⟩) hD.db, Option.bind_some]
    refine Tot.val (.flb (.mono (P := fun o => (o = .go () ∧ asg S T l = some []) ∨ o = .ret (ansA (asg S T l))) ?_ ?_))
    · refine .iter (fun m (st : Int × List (List Int)) => ∃ i : Nat, m + i = l.length ∧ st.1 = (i : Int) ∧ DI S st.2 ∧ asg S st.2 (l.drop i) = asg S T l) (n := l.length) ⟨0, by omega, rfl, hD, rfl⟩ ?_
      rintro m ⟨w, U⟩ ⟨i, hm, hw, hDU, hA⟩
      dsimp only at hw hDU hA
      subst hw
      unfold i_assign_L2
      dsimp only
      refine .iteP (fun hlt => ?_) (fun hge => .dn (.inl ⟨rfl, ?_⟩))
      · obtain ⟨x, hx⟩ := get_ex (l := l) (i := i) (by omega)
        rw [drop_at hx] at hA
        refine .eq (ixs hx) ?_
        cases ho : x.Out with
        | true =>
          rw [asg_out ho] at hA
          rw [if_pos rfl, itake_eq (d := ⟨S, U⟩) hDU.db, Option.bind_some]
          cases ht : tk U x.Vehicle with
          | none =>
            rw [ht] at hA
            simp only [Bool.not_false, if_true]
            exact .dn (.inr (by rw [← hA]; rfl))
          | some U' =>
            rw [ht] at hA
            simp only [Bool.not_true, Bool.false_eq_true, if_false]
            exact .nx ⟨m - 1, by omega, i + 1, by omega, w64_succ (by omega), (tk_some hDU ht).1, hA⟩
        | false =>
          rw [asg_in ho] at hA
          rw [if_neg (by simp)]
          have hstep : ∀ t : Nat, t < U.length → i_assign_L1 (i_assign_k n) l ⟨S, T⟩ (i : Int) U x (t : Int) = some (match (match pk S U x.Vehicle (t : Int) with | none => none | some T' => (asg S T' (l.drop (i + 1))).map fun r => (t : Int) :: r) with
              | some r => .dn (.ret (.dn (.ret (r, true)))) | none => .nx ((t + 1 : Nat) : Int)) := by
            intro t ht
            unfold i_assign_L1
            dsimp only
            have hUl := hDU.db.2.1
            rw [if_pos (by rw [decide_eq_true_eq]; omega), icopy_eq (d := ⟨S, U⟩) hDU.db, Option.bind_some, ipark_eq (d := ⟨S, U⟩) hDU.db hDU.2.1, Option.bind_some]
            cases hp : pk S U x.Vehicle (t : Int) with
            | none => simp only [Bool.not_false, if_true, flb_go, w64_succ (n := t) (by omega)]
            | some U' =>
              have hD' := (pk_some hDU hp).1
              have hdl : (l.drop (i + 1)).length < n := by rw [List.length_drop]; omega
              have hrec := iassign_eq (n := n) (l := l.drop (i + 1)) (T := U') hdl (by rw [List.length_drop]; omega) hD'
              simp only [Bool.not_true, Bool.false_eq_true, if_false]
              rw [w64_succ (n := i) (by omega), chk_of ⟨by omega, by omega⟩, Option.bind_some, Int.toNat_natCast]
              cases ha : asg S U' (l.drop (i + 1)) with
              | none =>
                rw [ha] at hrec
                rw [show i_assign_k n ⟨S, U'⟩ (l.drop (i + 1)) = some ([], false) from hrec, Option.bind_some]
                simp only [Bool.false_eq_true, if_false, flb_go, w64_succ (n := t) (by omega), Option.map_none]
              | some r =>
                rw [ha] at hrec
                rw [show i_assign_k n ⟨S, U'⟩ (l.drop (i + 1)) = some (r, true) from hrec, Option.bind_some]
                have := asg_len ha
                rw [List.length_drop] at this
                simp only [if_true, Option.map_some]
                rw [chk_of (by rw [List.length_singleton]; omega), Option.bind_some]
                rfl
          have hL : iter (i_assign_L1 (i_assign_k n) l ⟨S, T⟩ (i : Int) U x) (0 : Int) = some (ansF ((List.range U.length).findSome? (fun t => (match pk S U x.Vehicle ((t : Nat) : Int) with | none => none | some T' => (asg S T' (l.drop (i + 1))).map fun r => (t : Int) :: r).map fun r => (Lp.dn (Fl.ret (r, true)) : Lp (Int × List (List Int)) (Fl (List Int × Bool) Unit))))) := by
            refine some_loop U.length _ (fun t ht => ?_) ?_
            · rw [hstep t ht]
              congr 1
              generalize (match pk S U x.Vehicle (t : Int) with | none => none | some T' => (asg S T' (l.drop (i + 1))).map fun r => (t : Int) :: r) = q
              cases q <;> rfl
            · unfold i_assign_L1
              dsimp only
              rw [if_neg (by rw [decide_eq_true_eq]; omega)]
          have hmap : ∀ {X Y : Type} (L : List Nat) (f : Nat → Option X) (g : X → Y), L.findSome? (fun t => (f t).map g) = (L.findSome? f).map g := by
            intro X Y L f g
            induction L with
            | nil => rfl
            | cons a L ih => simp only [List.findSome?_cons]; cases f a <;> simp [ih]
          rw [hL, hmap, hA]
          cases asg S T l with
          | none => exact .dn (.inr rfl)
          | some r => exact .dn (.inr rfl)
      · rw [List.drop_of_length_le (by omega)] at hA
        rw [← hA]; rfl
    · rintro o (⟨rfl, h⟩ | rfl)
      · exact ⟨fun r e => (by cases e), fun u _ => .ok (by rw [h]; rfl)⟩
      · exact ⟨fun r e => (by cases e; rfl), fun u e => (by cases e)⟩
def ansS (tr : List Int) : Option (List Int) → List Int × Bool
  | none => ([], false)
  | some r => (tr ++ r, true)
theorem sout_eq {S : List Int} {l : List Move} (hl : l.length ≤ 1000) {at_ : Nat} (ha : at_ ≤ l.length) {T : List (List Int)} (hD : DI S T) :
    Tot (iter (s_l15Assign_m_L1 l) ((at_ : Int), S, T)) fun o => (o = .ret ([], false) ∧ asg S T (l.drop at_) = none) ∨ ∃ (i : Nat) (U : List (List Int)), o = .go ((i : Int), S, U) ∧ at_ ≤ i ∧ i ≤ l.length ∧ DI S U ∧ asg S T (l.drop at_) = asg S U (l.drop i) ∧ (i = l.length ∨ ∃ x, l[i]? = some x ∧ x.Out = false) := by
  refine .iter (fun m (st : Int × List Int × List (List Int)) => ∃ i : Nat, m + i = l.length ∧ at_ ≤ i ∧ st.1 = (i : Int) ∧ st.2.1 = S ∧ DI S st.2.2 ∧ asg S T (l.drop at_) = asg S st.2.2 (l.drop i)) (n := l.length - at_) ⟨at_, by omega, Nat.le_refl _, rfl, rfl, hD, rfl⟩ ?_
  rintro m ⟨w, S', U⟩ ⟨i, hm, hi, hw, hS, hDU, hA⟩
  dsimp only at hw hS hDU hA
  subst hw; subst hS
  unfold s_l15Assign_m_L1
  dsimp only
  by_cases hlt : i < l.length
  · obtain ⟨x, hx⟩ := get_ex hlt
    rw [drop_at hx] at hA
    rw [if_pos (by rw [decide_eq_true_eq]; omega), ixs hx, Option.bind_some, Option.bind_some]
    cases ho : x.Out with
    | true =>
      rw [asg_out ho] at hA
      rw [if_pos rfl, Option.bind_some, stake_eq (d := ⟨S', U⟩) hDU.db, Option.bind_some]
      cases ht : tk U x.Vehicle with
      | none =>
        rw [ht] at hA
        simp only [Bool.not_false, if_true]
        exact .dn (.inl ⟨rfl, hA⟩)
      | some U' =>
        rw [ht] at hA
        simp only [Bool.not_true, Bool.false_eq_true, if_false]
        exact .nx ⟨m - 1, by omega, i + 1, by omega, by omega, w64_succ (by omega), rfl, (tk_some hDU ht).1, hA⟩
    | false =>
      rw [if_neg (by simp)]
      exact .dn (.inr ⟨i, U, rfl, hi, by omega, hDU, by rw [drop_at hx]; exact hA, .inr ⟨x, hx, ho⟩⟩)
  · rw [if_neg (by rw [decide_eq_true_eq]; omega), Option.bind_some, if_neg (by simp)]
    exact .dn (.inr ⟨i, U, rfl, hi, by omega, hDU, hA, .inl (by omega)⟩)
theorem sassignF_eq {S : List Int} {l : List Move} (hl : l.length ≤ 1000) {rec_ : Depot → List Move → Int → List Int → Option (List Int × Bool)} {at_ : Nat} (ha : at_ ≤ l.length) {T : List (List Int)} (hD : DI S T) {tr : List Int} (htr : tr.length ≤ at_)
    (hrec : ∀ (i : Nat) (U : List (List Int)) (q : List Int), at_ < i → i ≤ l.length → DI S U → q.length ≤ i → rec_ ⟨S, U⟩ l (i : Int) q = some (ansS q (asg S U (l.drop i)))) :
    s_l15Assign_m_F rec_ ⟨S, T⟩ l (at_ : Int) tr = some (ansS tr (asg S T (l.drop at_))) := by
  unfold s_l15Assign_m_F
  refine Tot.val (.flb ((sout_eq hl ha hD).mono fun o ho => ?_))
  rcases ho with ⟨rfl, hA⟩ | ⟨i, U, rfl, hi, hil, hDU, hA, hend⟩
  · exact ⟨fun r e => (by cases e; rw [hA]; rfl), fun u e => (by cases e)⟩
  refine ⟨fun r e => (by cases e), fun u e => ?_⟩
  cases e
  dsimp only
  rw [hA]
  rcases hend with rfl | ⟨x, hx, ho⟩
  · rw [if_pos (by simp), List.drop_length]
    exact .ok (by simp [asg, ansS])
  · have hil := get_lt hx
    rw [if_neg (by simp; omega), drop_at hx, asg_in ho]
    have hUl := hDU.db.2.1
    have hUs := hDU.2.1
    have hle : ∀ (i : Nat) (r : List Int) (s : Int), U[i]? = some r → S[i]? = some s → (r.length : Int) ≤ s := fun i r s h1 h2 => (hDU.2.2.1 i r s h1 h2).2
    have hstep : ∀ t : Nat, t < U.length → s_l15Assign_m_L2 rec_ l tr (i : Int) S U (t : Int) = some (match (match pk S U x.Vehicle (t : Int) with | none => none | some T' => (asg S T' (l.drop (i + 1))).map fun r => (t : Int) :: r) with
        | some r => .dn (.ret (tr ++ r, true)) | none => .nx ((t + 1 : Nat) : Int)) := by
      intro t ht
      unfold s_l15Assign_m_L2
      dsimp only
      rw [if_pos (by rw [decide_eq_true_eq]; omega), ixs hx, Option.bind_some, spark_eq (d := ⟨S, U⟩) hDU.db hUs hle, Option.bind_some]
      cases hp : pk S U x.Vehicle (t : Int) with
      | none => simp only [Bool.not_false, if_true, flb_go, w64_succ (n := t) (by omega)]
      | some U' =>
        simp only [Bool.not_true, Bool.false_eq_true, if_false]
        have hr := hrec (i + 1) U' (tr ++ [(t : Int)]) (by omega) (by omega) (pk_some hDU hp).1 (by simp; omega)
        rw [own0_eq _ (by omega), Option.bind_some, chk_of (by rw [List.length_singleton]; omega), Option.bind_some, w64_succ (n := i) (by omega), hr, Option.bind_some]
        cases ha2 : asg S U' (l.drop (i + 1)) with
        | none => simp only [ansS, Bool.false_eq_true, if_false, flb_go, w64_succ (n := t) (by omega), Option.map_none]
        | some r => simp [ansS]
    have hL : iter (s_l15Assign_m_L2 rec_ l tr (i : Int) S U) (0 : Int) = some (ansF ((List.range U.length).findSome? (fun t => (match pk S U x.Vehicle ((t : Nat) : Int) with | none => none | some T' => (asg S T' (l.drop (i + 1))).map fun r => (t : Int) :: r).map fun r => (tr ++ r, true)))) := by
      refine some_loop U.length _ (fun t ht => ?_) ?_
      · rw [hstep t ht]
        congr 1
        generalize (match pk S U x.Vehicle (t : Int) with | none => none | some T' => (asg S T' (l.drop (i + 1))).map fun r => (t : Int) :: r) = q
        cases q <;> rfl
      · unfold s_l15Assign_m_L2
        dsimp only
        rw [if_neg (by rw [decide_eq_true_eq]; omega)]
    have hmap : ∀ {X Y : Type} (L : List Nat) (f : Nat → Option X) (g : X → Y), L.findSome? (fun t => (f t).map g) = (L.findSome? f).map g := by
      intro X Y L f g
      induction L with
      | nil => rfl
      | cons a L ih => simp only [List.findSome?_cons]; cases f a <;> simp [ih]
    rw [hL, hmap]
    generalize ((List.range U.length).findSome? fun (t : Nat) => match pk S U x.Vehicle (t : Int) with | none => none | some T' => (asg S T' (l.drop (i + 1))).map fun r => (t : Int) :: r) = q
    cases q with
    | none => exact .ok rfl
    | some r => exact .ok rfl
theorem sassignK_eq {S : List Int} {l : List Move} (hl : l.length ≤ 1000) : ∀ {n : Nat} {at_ : Nat} {T : List (List Int)} {tr : List Int}, l.length < n + at_ → at_ ≤ l.length → DI S T → tr.length ≤ at_ → s_l15Assign_m_k n ⟨S, T⟩ l (at_ : Int) tr = some (ansS tr (asg S T (l.drop at_)))
  | 0, at_, T, tr, h, ha, _, _ => by omega
  | n + 1, at_, T, tr, h, ha, hD, htr => sassignF_eq hl ha hD htr fun i U q h1 h2 h3 h4 => sassignK_eq hl (by omega) h2 h3 h4
theorem sassign_eq {S : List Int} {l : List Move} (hl : l.length ≤ 1000) {T : List (List Int)} (hD : DI S T) : s_l15Assign ⟨S, T⟩ l 0 [] = some (ansA (asg S T l)) := by
  have h := sassignF_eq (rec_ := s_l15Assign_m) hl (at_ := 0) (Nat.zero_le _) hD (tr := []) (by simp) fun i U q h1 h2 h3 h4 => sassignK_eq hl (by omega) h2 h3 h4
  have e : s_l15Assign ⟨S, T⟩ l 0 [] = s_l15Assign_m_F s_l15Assign_m ⟨S, T⟩ l ((0 : Nat) : Int) [] := rfl
  rw [e, h, List.drop_zero]
  cases asg S T l <;> rfl
theorem iassign0_eq {S : List Int} {l : List Move} (hl : l.length ≤ 1000) {T : List (List Int)} (hD : DI S T) : i_assign ⟨S, T⟩ l = some (ansA (asg S T l)) := iassign_eq (by omega) hl hD
/-! Moves performed by both. -/
def rn (S : List Int) : List (List Int) → List Move → List Int → Nat × List (List Int)
  | T, [], _ => (0, T)
  | T, m :: l, tr => if m.Out then (match tk T m.Vehicle with
      | none => (0, T)
      | some T' => ((rn S T' l tr).1 + 1, (rn S T' l tr).2))
    else match tr with
      | [] => (0, T)
      | t :: tr' => match pk S T m.Vehicle t with
        | none => (0, T)
        | some T' => ((rn S T' l tr').1 + 1, (rn S T' l tr').2)
theorem rn_out {S : List Int} {T : List (List Int)} {m : Move} {l : List Move} {tr : List Int} (h : m.Out = true) : rn S T (m :: l) tr = match tk T m.Vehicle with
      | none => (0, T)
      | some T' => ((rn S T' l tr).1 + 1, (rn S T' l tr).2) := by rw [rn.eq_def]; dsimp only; rw [if_pos h]
theorem rn_in {S : List Int} {T : List (List Int)} {m : Move} {l : List Move} {tr : List Int} (h : m.Out = false) : rn S T (m :: l) tr = match tr with
      | [] => (0, T)
      | t :: tr' => match pk S T m.Vehicle t with
        | none => (0, T)
        | some T' => ((rn S T' l tr').1 + 1, (rn S T' l tr').2) := by rw [rn.eq_def]; dsimp only; rw [if_neg (by simp [h])]
theorem rn_ok {S : List Int} : ∀ {l : List Move} {T : List (List Int)} {tr : List Int}, DI S T → DI S (rn S T l tr).2 ∧ (rn S T l tr).1 ≤ l.length
  | [], T, tr, h => ⟨h, Nat.le_refl _⟩
  | m :: l, T, tr, h => by
    cases ho : m.Out with
    | true =>
      rw [rn_out ho]
      cases ht : tk T m.Vehicle with
      | none => exact ⟨h, Nat.zero_le _⟩
      | some T' =>
        have := rn_ok (l := l) (tr := tr) (tk_some h ht).1
        exact ⟨this.1, by show _ + 1 ≤ _; simp; exact this.2⟩
    | false =>
      rw [rn_in ho]
      cases tr with
      | nil => exact ⟨h, Nat.zero_le _⟩
      | cons t tr' =>
        dsimp only
        cases hp : pk S T m.Vehicle t with
        | none => exact ⟨h, Nat.zero_le _⟩
        | some T' =>
          have := rn_ok (l := l) (tr := tr') (pk_some h hp).1
          exact ⟨this.1, by show _ + 1 ≤ _; simp; exact this.2⟩
theorem asg_rn {S : List Int} : ∀ {l : List Move} {T : List (List Int)} {r : List Int}, asg S T l = some r → (rn S T l r).1 = l.length
  | [], T, r, h => rfl
  | m :: l, T, r, h => by
    cases ho : m.Out with
    | true =>
      rw [asg_out ho] at h
      rw [rn_out ho]
      cases ht : tk T m.Vehicle with
      | none => rw [ht] at h; cases h
      | some T' =>
        rw [ht] at h
        show _ + 1 = _
        rw [asg_rn h]; rfl
    | false =>
      rw [asg_in ho] at h
      rw [rn_in ho]
      obtain ⟨t, _, h⟩ := List.exists_of_findSome?_eq_some h
      cases hp : pk S T m.Vehicle (t : Int) with
      | none => rw [hp] at h; cases h
      | some T' =>
        rw [hp] at h
        obtain ⟨q, hq, rfl⟩ := Option.map_eq_some_iff.1 h
        dsimp only
        rw [hp]
        show _ + 1 = _
        rw [asg_rn hq]; rfl
theorem irun_eq {S : List Int} {T : List (List Int)} {l : List Move} {tr : List Int} (hD : DI S T) (hl : l.length ≤ 1000) (htr : tr.length ≤ 1000) : i_runMoves_a ⟨S, T⟩ l tr = some (((rn S T l tr).1 : Int), (rn S T l tr).2) := by
  unfold i_runMoves_a
  refine Tot.val (.flb (.mono (P := fun o => (o = .go (rn S T l tr).2 ∧ (rn S T l tr).1 = l.length) ∨ o = .ret (((rn S T l tr).1 : Int), (rn S T l tr).2)) ?_ ?_))
  · refine .iter (fun m (st : Int × Int × List (List Int)) => ∃ i u : Nat, m + i = l.length ∧ st.1 = (u : Int) ∧ st.2.1 = (i : Int) ∧ u ≤ tr.length ∧ DI S st.2.2 ∧ (rn S T l tr).1 = (rn S st.2.2 (l.drop i) (tr.drop u)).1 + i ∧ (rn S T l tr).2 = (rn S st.2.2 (l.drop i) (tr.drop u)).2) (n := l.length) ⟨0, 0, by omega, rfl, rfl, by omega, hD, rfl, rfl⟩ ?_
    rintro m ⟨wu, wi, U⟩ ⟨i, u, hm, hu, hi, hul, hDU, hA, hB⟩
    dsimp only at hu hi hDU hA hB
    subst hu; subst hi
    unfold i_runMoves_a_L1
    dsimp only
    refine .iteP (fun hlt => ?_) (fun hge => .dn (.inl ?_))
    · obtain ⟨x, hx⟩ := get_ex (l := l) (i := i) (by omega)
      rw [drop_at hx] at hA hB
      rw [ixs hx, Option.bind_some]
      cases ho : x.Out with
      | true =>
        rw [rn_out ho] at hA hB
        rw [if_pos rfl, itake_eq (d := ⟨S, U⟩) hDU.db, Option.bind_some]
        cases ht : tk U x.Vehicle with
        | none =>
          rw [ht] at hA hB
          dsimp only at hA hB
          simp only [Bool.not_false, if_true, flb_ret]
          exact .dn (.inr (by rw [hA, hB]; simp))
        | some U' =>
          rw [ht] at hA hB
          dsimp only at hA hB
          simp only [Bool.not_true, Bool.false_eq_true, if_false, flb_go]
          exact .nx ⟨m - 1, by omega, i + 1, u, by omega, rfl, w64_succ (by omega), hul, (tk_some hDU ht).1, by rw [hA]; dsimp only; omega, hB⟩
      | false =>
        rw [rn_in ho] at hA hB
        rw [if_neg (by simp)]
        by_cases hut : u = tr.length
        · rw [List.drop_of_length_le (by omega)] at hA hB
          dsimp only at hA hB
          rw [if_pos (by simp; omega), Option.bind_some]
          simp only [if_true, flb_ret]
          exact .dn (.inr (by rw [hA, hB]; simp))
        · obtain ⟨t, ht⟩ := get_ex (l := tr) (i := u) (by omega)
          rw [drop_at ht] at hA hB
          dsimp only at hA hB
          rw [if_neg (by simp; omega), ixs ht, Option.bind_some, ipark_eq (d := ⟨S, U⟩) hDU.db hDU.2.1]
          cases hp : pk S U x.Vehicle t with
          | none =>
            rw [hp] at hA hB
            dsimp only at hA hB
            simp only [Option.bind_some, Bool.not_false, if_true, flb_ret]
            exact .dn (.inr (by rw [hA, hB]; simp))
          | some U' =>
            rw [hp] at hA hB
            dsimp only at hA hB
            simp only [Option.bind_some, Bool.not_true, Bool.false_eq_true, if_false, flb_go]
            exact .nx ⟨m - 1, by omega, i + 1, u + 1, by omega, w64_succ (by omega), w64_succ (by omega), by omega, (pk_some hDU hp).1, by rw [hA]; dsimp only; omega, hB⟩
    · rw [List.drop_of_length_le (by omega)] at hA hB
      have e1 : (rn S U [] (tr.drop u)) = (0, U) := rfl
      rw [e1] at hA hB
      exact ⟨by rw [hB], by rw [hA]; dsimp only; omega⟩
  · rintro o (⟨rfl, h⟩ | rfl)
    · exact ⟨fun r e => (by cases e), fun u e => (by cases e; exact .ok (by rw [h]))⟩
    · exact ⟨fun r e => (by cases e; rfl), fun u e => (by cases e)⟩
theorem srun_eq {S : List Int} {T : List (List Int)} {l : List Move} {tr : List Int} (hD : DI S T) (hl : l.length ≤ 1000) (htr : tr.length ≤ 1000) : s_l15Run ⟨S, T⟩ l tr = some (⟨S, (rn S T l tr).2⟩, ((rn S T l tr).1 : Int)) := by
  unfold s_l15Run
  rw [sown_eq (d := ⟨S, T⟩) hD.db, Option.bind_some]
  refine Tot.val (.flb (.mono (P := fun o => (o = .go (S, (rn S T l tr).2) ∧ (rn S T l tr).1 = l.length) ∨ o = .ret (⟨S, (rn S T l tr).2⟩, ((rn S T l tr).1 : Int))) ?_ ?_))
  · refine .iter (fun m (st : Int × Int × List Int × List (List Int)) => ∃ i u : Nat, m + i = l.length ∧ st.1 = (u : Int) ∧ st.2.1 = (i : Int) ∧ st.2.2.1 = S ∧ u ≤ tr.length ∧ DI S st.2.2.2 ∧ (rn S T l tr).1 = (rn S st.2.2.2 (l.drop i) (tr.drop u)).1 + i ∧ (rn S T l tr).2 = (rn S st.2.2.2 (l.drop i) (tr.drop u)).2) (n := l.length) ⟨0, 0, by omega, rfl, rfl, rfl, by omega, hD, rfl, rfl⟩ ?_
    rintro m ⟨wu, wi, S', U⟩ ⟨i, u, hm, hu, hi, hS, hul, hDU, hA, hB⟩
    dsimp only at hu hi hS hDU hA hB
    subst hu; subst hi; subst hS
    have hle : ∀ (i : Nat) (r : List Int) (s : Int), U[i]? = some r → S'[i]? = some s → (r.length : Int) ≤ s := fun i r s h1 h2 => (hDU.2.2.1 i r s h1 h2).2
    unfold s_l15Run_L1
    dsimp only
    refine .iteP (fun hlt => ?_) (fun hge => .dn (.inl ?_))
    · obtain ⟨x, hx⟩ := get_ex (l := l) (i := i) (by omega)
      rw [drop_at hx] at hA hB
      rw [ixs hx, Option.bind_some]
      cases ho : x.Out with
      | true =>
        rw [rn_out ho] at hA hB
        rw [if_pos rfl, Option.bind_some, stake_eq (d := ⟨S', U⟩) hDU.db, Option.bind_some]
        cases ht : tk U x.Vehicle with
        | none =>
          rw [ht] at hA hB
          dsimp only at hA hB
          simp only [Option.bind_some, Bool.not_false, if_true]
          exact .dn (.inr (by rw [hA, hB]; simp))
        | some U' =>
          rw [ht] at hA hB
          dsimp only at hA hB
          simp only [Option.bind_some, Bool.not_true, Bool.false_eq_true, if_false]
          exact .nx ⟨m - 1, by omega, i + 1, u, by omega, rfl, w64_succ (by omega), rfl, hul, (tk_some hDU ht).1, by rw [hA]; dsimp only; omega, hB⟩
      | false =>
        rw [rn_in ho] at hA hB
        rw [if_neg (by simp)]
        by_cases hut : u = tr.length
        · rw [List.drop_of_length_le (by omega)] at hA hB
          dsimp only at hA hB
          rw [if_neg (by rw [decide_eq_true_eq]; omega), Option.bind_some]
          simp only [Bool.not_false, if_true]
          exact .dn (.inr (by rw [hA, hB]; simp))
        · obtain ⟨t, ht⟩ := get_ex (l := tr) (i := u) (by omega)
          rw [drop_at ht] at hA hB
          dsimp only at hA hB
          rw [if_pos (by rw [decide_eq_true_eq]; omega), Option.bind_some, ixs ht, Option.bind_some, spark_eq (d := ⟨S', U⟩) hDU.db hDU.2.1 hle]
          cases hp : pk S' U x.Vehicle t with
          | none =>
            rw [hp] at hA hB
            dsimp only at hA hB
            simp only [Option.bind_some, Bool.not_false, if_true]
            exact .dn (.inr (by rw [hA, hB]; simp))
          | some U' =>
            rw [hp] at hA hB
            dsimp only at hA hB
            simp only [Option.bind_some, Bool.not_true, Bool.false_eq_true, if_false]
            exact .nx ⟨m - 1, by omega, i + 1, u + 1, by omega, w64_succ (by omega), w64_succ (by omega), rfl, by omega, (pk_some hDU hp).1, by rw [hA]; dsimp only; omega, hB⟩
    · rw [List.drop_of_length_le (by omega)] at hA hB
      have e1 : (rn S' U [] (tr.drop u)) = (0, U) := rfl
      rw [e1] at hA hB
      exact ⟨by rw [hB], by rw [hA]; dsimp only; omega⟩
  · rintro o (⟨rfl, h⟩ | rfl)
    · exact ⟨fun r e => (by cases e), fun u e => (by cases e; exact .ok (by rw [h]))⟩
    · exact ⟨fun r e => (by cases e; rfl), fun u e => (by cases e)⟩
/-- Both perform moves alike. -/
theorem run_both {d : Depot} (hb : DB d.Sizes d.Tracks) {l : List Move} (hl : l.length ≤ 1000) {tr : List Int} (htr : tr.length ≤ 1000) :
    ∃ r : Depot × Int × Bool, i_RunMoves d l tr = some r ∧ s_RunMoves d l tr = some r ∧ DB r.1.Sizes r.1.Tracks ∧ (DI d.Sizes d.Tracks → l.length ≤ 20 → r = (⟨d.Sizes, (rn d.Sizes d.Tracks l tr).2⟩, ((rn d.Sizes d.Tracks l tr).1 : Int), true)) := by
  obtain ⟨S, T⟩ := d
  unfold i_RunMoves s_RunMoves
  rw [ivalid_eq hb, svalid_eq hb, Option.bind_some, Option.bind_some]
  by_cases hD : DI S T
  · by_cases h20 : l.length ≤ 20
    · refine ⟨(⟨S, (rn S T l tr).2⟩, ((rn S T l tr).1 : Int), true), ?_, ?_, (rn_ok hD).1.db, fun _ _ => rfl⟩
      · rw [if_neg (by simp [hD]), Option.bind_some, if_neg (by simp; omega), icopy_eq hb, Option.bind_some, irun_eq hD hl htr]; rfl
      · rw [if_neg (by simp [hD]), Option.bind_some, if_neg (by simp; omega), srun_eq hD hl htr]; rfl
    · refine ⟨(⟨[], []⟩, 0, false), ?_, ?_, ⟨by simp, by simp, by simp⟩, fun _ h => absurd h h20⟩
      · rw [if_neg (by simp [hD]), Option.bind_some, if_pos (by simp; omega)]
      · rw [if_neg (by simp [hD]), Option.bind_some, if_pos (by simp; omega)]
  · refine ⟨(⟨[], []⟩, 0, false), ?_, ?_, ⟨by simp, by simp, by simp⟩, fun h => absurd h hD⟩
    · rw [if_pos (by simp [hD]), Option.bind_some, if_pos rfl]
    · rw [if_pos (by simp [hD]), Option.bind_some, if_pos rfl]
/-! Moves that let a vehicle leave, by both. -/
theorem tk_last {S : List Int} {T : List (List Int)} (hD : DI S T) {i : Nat} {r : List Int} {v : Int} (h : T[i]? = some (r ++ [v])) : tk T v = some (T.set i r) := by
  have hp := pl_of hD.inj (k := r.length) (v := v) h (by rw [List.getElem?_append_right (Nat.le_refl _)]; simp)
  unfold tk
  rw [hp]
  dsimp only
  rw [getDL h, if_pos (by simp), List.take_left]
def okT (S : List Int) (own : Nat) (T : List (List Int)) (t : Nat) : Bool := decide (t ≠ own ∧ ((T.getD t []).length : Int) < S.getD t 0)
def ft (S : List Int) (own : Nat) (T : List (List Int)) : Option Nat := (List.range T.length).find? (okT S own T)
theorem ft_some {S : List Int} {own : Nat} {T : List (List Int)} {t : Nat} (hl : t < T.length) (h : okT S own T t = true) (hn : ∀ j, j < t → okT S own T j = false) : ft S own T = some t := by
  unfold ft
  rw [List.find?_range_eq_some]
  exact ⟨h, List.mem_range.2 hl, fun j hj => by rw [hn j hj]; rfl⟩
theorem ft_none {S : List Int} {own : Nat} {T : List (List Int)} (hn : ∀ j, j < T.length → okT S own T j = false) : ft S own T = none := by
  unfold ft
  rw [List.find?_eq_none]
  intro x hx
  rw [hn x (List.mem_range.1 hx)]; simp
theorem ft_at {S : List Int} {own : Nat} {T : List (List Int)} {t : Nat} (h : ft S own T = some t) : t < T.length ∧ t ≠ own ∧ ((T.getD t []).length : Int) < S.getD t 0 := by
  unfold ft at h
  rw [List.find?_range_eq_some] at h
  exact ⟨List.mem_range.1 h.2.1, of_decide_eq_true h.1⟩
def shn (S : List Int) (own : Nat) : List (List Int) → List Int → Option (List Move × List Int)
  | _, [] => some ([], [])
  | T, b :: B => match tk T b with
    | none => none
    | some T' => match ft S own T' with
      | none => none
      | some t => (shn S own (T'.set t (T'.getD t [] ++ [b])) B).map fun q => (⟨b, true⟩ :: ⟨b, false⟩ :: q.1, (t : Int) :: q.2)
/-- The blockers stand behind on their own track. -/
def ShI (S : List Int) (own : Nat) (p : List Int) (T : List (List Int)) (B : List Int) : Prop := DI S T ∧ T[own]? = some (p ++ B.reverse)
theorem shI_step {S : List Int} {own : Nat} {p : List Int} {T : List (List Int)} {b : Int} {B : List Int} (h : ShI S own p T (b :: B)) :
    tk T b = some (T.set own (p ++ B.reverse)) ∧ ShI S own p (T.set own (p ++ B.reverse)) B ∧ b ∉ (T.set own (p ++ B.reverse)).flatten ∧ 1 ≤ b ∧ b ≤ 99 := by
  obtain ⟨hD, hr⟩ := h
  rw [List.reverse_cons, ← List.append_assoc] at hr
  have h1 := tk_last hD hr
  obtain ⟨h2, h3, _⟩ := tk_some hD h1
  refine ⟨h1, ⟨h2, List.getElem?_set_self (get_lt hr)⟩, h3, ?_⟩
  exact hD.2.2.2.1 _ (List.mem_of_getElem? hr) b (by simp)
theorem shI_park {S : List Int} {own : Nat} {p : List Int} {T : List (List Int)} {b : Int} {B : List Int} (h : ShI S own p T B) (hb : b ∉ T.flatten) (h1 : 1 ≤ b ∧ b ≤ 99) {t : Nat} (ht : t < T.length) (hc : ((T.getD t []).length : Int) < S.getD t 0) :
    pk S T b (t : Int) = some (T.set t (T.getD t [] ++ [b])) ∧ (t ≠ own → ShI S own p (T.set t (T.getD t [] ++ [b])) B) := by
  have hp : pk S T b (t : Int) = some (T.set t (T.getD t [] ++ [b])) := by
    unfold pk
    rw [Int.toNat_natCast, if_pos ⟨by omega, by omega, hc, h1, pl_none_iff.2 hb⟩]
  refine ⟨hp, fun hto => ⟨(pk_some h.1 hp).1, ?_⟩⟩
  rw [List.getElem?_set_ne hto]; exact h.2
theorem blk_len {S : List Int} {own : Nat} {p : List Int} {T : List (List Int)} {B : List Int} (h : ShI S own p T B) : B.length ≤ 100 := by
  have := h.1.db.2.2 _ (List.mem_of_getElem? h.2)
  simp at this; omega
/-- The first track that has room, by the program. -/
theorem ifree_eq {S : List Int} {own : Nat} {p : List Int} {T : List (List Int)} {B : List Int} {b : Int} (h : ShI S own p T B) (hb : b ∉ T.flatten) (h1 : 1 ≤ b ∧ b ≤ 99) (X : List Int) (z : Bool) :
    iter (i_ShuntingMoves_L1 (X, (own : Int)) ⟨S, T⟩ b (z, T)) ((0 : Int), T) = some (match ft S own T with | some t => ((t : Int), T.set t (T.getD t [] ++ [b])) | none => (-1, T)) := by
  have hTl := h.1.db.2.1
  refine Tot.val (.iter (fun m (st : Int × List (List Int)) => ∃ j : Nat, m + j = T.length ∧ st.1 = (j : Int) ∧ st.2 = T ∧ ∀ q, q < j → okT S own T q = false) (n := T.length) ⟨0, by omega, rfl, rfl, fun q hq => by omega⟩ ?_)
  rintro m ⟨w, U⟩ ⟨j, hm, hw, hU, hn⟩
  dsimp only at hw hU
  subst hw; subst hU
  unfold i_ShuntingMoves_L1
  dsimp only
  refine .iteP (fun hlt => ?_) (fun hge => .dn ?_)
  · by_cases hjo : j = own
    · rw [if_neg (by simp; omega), Option.bind_some, if_neg (by simp)]
      refine .nx ⟨m - 1, by omega, j + 1, by omega, w64_succ (by omega), rfl, fun q hq => ?_⟩
      by_cases hqj : q = j
      · subst hqj; unfold okT; simp [hjo]
      · exact hn q (by omega)
    · rw [if_pos (by simp; omega), ipark_eq (d := ⟨S, U⟩) h.1.db h.1.2.1]
      by_cases hc : ((U.getD j []).length : Int) < S.getD j 0
      · rw [(shI_park h hb h1 (by omega) hc).1, Option.bind_some, Option.bind_some, if_pos rfl]
        have : ft S own U = some j := ft_some (by omega) (by unfold okT; exact decide_eq_true ⟨hjo, hc⟩) hn
        rw [this]
        exact .dn rfl
      · have : pk S U b (j : Int) = none := by unfold pk; rw [Int.toNat_natCast, if_neg (by rintro ⟨_, _, q, _⟩; exact hc q)]
        rw [this, Option.bind_some, Option.bind_some, if_neg (by simp)]
        refine .nx ⟨m - 1, by omega, j + 1, by omega, w64_succ (by omega), rfl, fun q hq => ?_⟩
        by_cases hqj : q = j
        · subst hqj; unfold okT; exact decide_eq_false fun e => hc e.2
        · exact hn q (by omega)
  · rw [ft_none fun q hq => hn q (by omega)]
theorem sfree_eq {S : List Int} {own : Nat} {T : List (List Int)} (hD : DI S T) (k : Int) (z : Bool) :
    iter (s_ShuntingMoves_L1 ((own : Int), k) (⟨S, T⟩, z)) (0 : Int) = some (match ft S own T with | some t => (t : Int) | none => (T.length : Int)) := by
  have hTl := hD.db.2.1
  have hTS := hD.2.1
  refine Tot.val (.iter (fun m (st : Int) => ∃ j : Nat, m + j = T.length ∧ st = (j : Int) ∧ ∀ q, q < j → okT S own T q = false) (n := T.length) ⟨0, by omega, rfl, fun q hq => by omega⟩ ?_)
  rintro m w ⟨j, hm, rfl, hn⟩
  unfold s_ShuntingMoves_L1
  dsimp only
  by_cases hlt : j < T.length
  · rw [if_pos (by rw [decide_eq_true_eq]; omega)]
    obtain ⟨r, hr⟩ := get_ex hlt
    obtain ⟨s, hs⟩ := get_ex (l := S) (i := j) (by omega)
    have hle := (hD.2.2.1 j r s hr hs).2
    by_cases hjo : j = own
    · rw [if_pos (by simp; omega), Option.bind_some, if_pos rfl]
      refine .nx ⟨m - 1, by omega, j + 1, by omega, w64_succ (by omega), fun q hq => ?_⟩
      by_cases hqj : q = j
      · subst hqj; unfold okT; simp [hjo]
      · exact hn q (by omega)
    · rw [if_neg (by simp; omega), ixs hr, Option.bind_some, ixs hs, Option.bind_some, Option.bind_some]
      by_cases hc : (r.length : Int) = s
      · rw [if_pos (by simpa using hc)]
        refine .nx ⟨m - 1, by omega, j + 1, by omega, w64_succ (by omega), fun q hq => ?_⟩
        by_cases hqj : q = j
        · subst hqj; unfold okT; rw [getDL hr, getDL hs]; exact decide_eq_false fun e => by omega
        · exact hn q (by omega)
      · rw [if_neg (by simpa using hc)]
        have : ft S own T = some j := ft_some hlt (by unfold okT; rw [getDL hr, getDL hs]; exact decide_eq_true ⟨hjo, by omega⟩) hn
        rw [this]
        exact .dn rfl
  · rw [if_neg (by rw [decide_eq_true_eq]; omega), Option.bind_some, if_neg (by simp), ft_none fun q hq => hn q (by omega)]
    exact .dn (show (j : Int) = (T.length : Int) by omega)
/-- What comes of the rest. -/
def joinQ (M : List Move) (P : List Int) (q : Option (List Move × List Int)) : Option (List Move × List Int) := q.map fun q => (M ++ q.1, P ++ q.2)
theorem joinQ_step (M : List Move) (P : List Int) (b t : Int) (q : Option (List Move × List Int)) : joinQ M P (q.map fun q => (⟨b, true⟩ :: ⟨b, false⟩ :: q.1, t :: q.2)) = joinQ (M ++ [⟨b, true⟩, ⟨b, false⟩]) (P ++ [t]) q := by
  cases q with
  | none => rfl
  | some q => simp [joinQ]
theorem ishunt_eq {S : List Int} {own : Nat} {p : List Int} {T : List (List Int)} {B : List Int} (h : ShI S own p T B) :
    Tot (iter (i_ShuntingMoves_L2 (B, (own : Int)) ⟨S, T⟩) ((0 : Int), ([] : List Move), ([] : List Int), T)) fun o => o = match shn S own T B with | none => .ret ([], [], false) | some q => .go q := by
  have hBl := blk_len h
  refine .iter (fun m (st : Int × List Move × List Int × List (List Int)) => ∃ i : Nat, m + i = B.length ∧ st.1 = (i : Int) ∧ st.2.1.length = 2 * i ∧ st.2.2.1.length = i ∧ ShI S own p st.2.2.2 (B.drop i) ∧ shn S own T B = joinQ st.2.1 st.2.2.1 (shn S own st.2.2.2 (B.drop i))) (n := B.length) ⟨0, by omega, rfl, rfl, rfl, h, by cases hq : shn S own T B <;> simp [joinQ, hq]⟩ ?_
  rintro m ⟨w, M, P, U⟩ ⟨i, hm, hw, hM, hP, hI, hA⟩
  dsimp only at hw hM hP hI hA
  subst hw
  unfold i_ShuntingMoves_L2
  dsimp only
  refine .iteP (fun hlt => ?_) (fun hge => .dn ?_)
  · obtain ⟨b, hb⟩ := get_ex (l := B) (i := i) (by omega)
    rw [drop_at hb] at hI hA
    obtain ⟨g1, g2, g3, g4⟩ := shI_step hI
    generalize U.set own (p ++ (B.drop (i + 1)).reverse) = U' at g1 g2 g3
    rw [ixs hb, Option.bind_some, itake_eq (d := ⟨S, U⟩) hI.1.db, g1, Option.bind_some]
    rw [shn, g1] at hA
    dsimp only at hA ⊢
    have hF : iter (i_ShuntingMoves_L1 (B, (own : Int)) ⟨S, T⟩ b (true, U')) ((0 : Int), U') = some (match ft S own U' with | some t => ((t : Int), U'.set t (U'.getD t [] ++ [b])) | none => (-1, U')) := ifree_eq g2 g3 g4 B true
    rw [hF, Option.bind_some]
    cases hft : ft S own U' with
    | none =>
      rw [hft] at hA
      dsimp only at hA ⊢
      rw [Option.bind_some, if_pos (by simp)]
      refine .dn ?_
      rw [hA]; rfl
    | some t =>
      rw [hft] at hA
      dsimp only at hA ⊢
      obtain ⟨f1, f2, f3⟩ := ft_at hft
      rw [Option.bind_some, if_neg (by simp), chk_of (by simp; omega), Option.bind_some, chk_of (by rw [List.length_singleton]; omega), Option.bind_some]
      refine .nx ⟨m - 1, by omega, i + 1, by omega, w64_succ (by omega), by simp; omega, by simp; omega, (shI_park g2 g3 g4 f1 f3).2 f2, ?_⟩
      rw [hA, joinQ_step]
  · rw [List.drop_of_length_le (by omega)] at hA
    rw [hA]
    simp [shn, joinQ]
theorem sshunt_eq {S : List Int} {own : Nat} {p : List Int} {T : List (List Int)} {B : List Int} (h : ShI S own p T B) (k : Int) :
    Tot (iter (s_ShuntingMoves_L2 ((own : Int), k) B) ((0 : Int), ([] : List Move), ([] : List Int), S, T)) fun o => o = match shn S own T B with | none => .ret ([], [], false) | some q => .go q := by
  have hBl := blk_len h
  refine .iter (fun m (st : Int × List Move × List Int × List Int × List (List Int)) => ∃ i : Nat, m + i = B.length ∧ st.1 = (i : Int) ∧ st.2.1.length = 2 * i ∧ st.2.2.1.length = i ∧ st.2.2.2.1 = S ∧ ShI S own p st.2.2.2.2 (B.drop i) ∧ shn S own T B = joinQ st.2.1 st.2.2.1 (shn S own st.2.2.2.2 (B.drop i))) (n := B.length) ⟨0, by omega, rfl, rfl, rfl, rfl, h, by cases hq : shn S own T B <;> simp [joinQ, hq]⟩ ?_
  rintro m ⟨w, M, P, S', U⟩ ⟨i, hm, hw, hM, hP, hS, hI, hA⟩
  dsimp only at hw hM hP hS hI hA
  subst hw; subst hS
  unfold s_ShuntingMoves_L2
  dsimp only
  refine .iteP (fun hlt => ?_) (fun hge => .dn ?_)
  · obtain ⟨b, hb⟩ := get_ex (l := B) (i := i) (by omega)
    rw [drop_at hb] at hI hA
    obtain ⟨g1, g2, g3, g4⟩ := shI_step hI
    generalize U.set own (p ++ (B.drop (i + 1)).reverse) = U' at g1 g2 g3
    rw [ixs hb, Option.bind_some, stake_eq (d := ⟨S', U⟩) hI.1.db, g1, Option.bind_some]
    rw [shn, g1] at hA
    dsimp only at hA ⊢
    have hU'S := g2.1.2.1
    have hle : ∀ (i : Nat) (r : List Int) (s : Int), U'[i]? = some r → S'[i]? = some s → (r.length : Int) ≤ s := fun i r s h1 h2 => (g2.1.2.2.1 i r s h1 h2).2
    rw [Option.bind_some, chk_of (by rw [List.length_singleton]; omega), Option.bind_some, sfree_eq g2.1, Option.bind_some]
    cases hft : ft S' own U' with
    | none =>
      rw [hft] at hA
      dsimp only at hA ⊢
      rw [if_pos (by simp; omega)]
      refine .dn ?_
      rw [hA]; rfl
    | some t =>
      rw [hft] at hA
      dsimp only at hA ⊢
      obtain ⟨f1, f2, f3⟩ := ft_at hft
      obtain ⟨q1, q2⟩ := shI_park g2 g3 g4 f1 f3
      rw [if_neg (by simp; omega), Option.bind_some, spark_eq (d := ⟨S', U'⟩) g2.1.db hU'S hle, q1, Option.bind_some, Option.bind_some, chk_of (by simp; omega), Option.bind_some, chk_of (by rw [List.length_singleton]; omega), Option.bind_some]
      refine .nx ⟨m - 1, by omega, i + 1, by omega, w64_succ (by omega), by simp; omega, by simp; omega, rfl, q2 f2, ?_⟩
      rw [hA, joinQ_step]; simp
  · rw [List.drop_of_length_le (by omega)] at hA
    rw [hA]
    simp [shn, joinQ]
/-! A vehicle leaves; the order in which vehicles leave, by both. -/
theorem sblock_eq {d : Depot} {r : List Int} {i k : Nat} (hr : d.Tracks[i]? = some r) (hk : k < r.length) (hl : r.length ≤ 100) : s_l15Blockers d (i : Int) (k : Int) = some (r.drop (k + 1)).reverse := by
  unfold s_l15Blockers
  rw [ixs hr, Option.bind_some, w64_id (by omega)]
  refine Tot.val (.call (P := fun q => q = (r.drop (k + 1)).reverse) (.iter (fun m (st : Int × List Int) => ∃ j : Nat, m + k = j ∧ k ≤ j ∧ j < r.length ∧ st.1 = (j : Int) ∧ st.2 = (r.drop (j + 1)).reverse) (n := r.length - 1 - k) ⟨r.length - 1, by omega, by omega, by omega, by omega, by rw [List.drop_of_length_le (by omega)]; rfl⟩ ?_) fun q h => .ok h)
  rintro m ⟨w, b⟩ ⟨j, hm, hj, hjl, hw, hb⟩
  dsimp only at hw hb
  subst hw; subst hb
  unfold s_l15Blockers_L1
  dsimp only
  refine .iteP (fun hlt => ?_) (fun hge => .dn ?_)
  · obtain ⟨x, hx⟩ := get_ex hjl
    rw [ixs hr, Option.bind_some, ixs hx, Option.bind_some, chk_of (by rw [List.length_singleton, List.length_reverse, List.length_drop]; omega), Option.bind_some]
    refine .nx ⟨m - 1, by omega, j - 1, by omega, by omega, by omega, by rw [w64_id (by omega)]; omega, ?_⟩
    rw [show j - 1 + 1 = j by omega, drop_at hx]; simp
  · rw [show j = k by omega]
theorem iblock_eq {d : Depot} (hb : DB d.Sizes d.Tracks) (v : Int) : i_blockersOf d v = some (match pl d.Tracks v with | none => ([], -1) | some (i, k) => (((d.Tracks.getD i []).drop (k + 1)).reverse, (i : Int))) := by
  unfold i_blockersOf
  rw [iplace_eq hb.2.1 hb.2.2, Option.bind_some]
  unfold plv
  cases hp : pl d.Tracks v with
  | none => rfl
  | some p =>
    obtain ⟨i, k⟩ := p
    obtain ⟨r, h1, h2⟩ := pl_at hp
    have hrl := hb.2.2 r (List.mem_of_getElem? h1)
    have hkl := get_lt h2
    dsimp only
    rw [if_neg (by simp), ixs h1, Option.bind_some, w64_succ (by omega), chk_of ⟨by omega, by omega⟩, Option.bind_some, Int.toNat_natCast, cloneI_eq _ (by rw [List.length_drop]; omega), Option.bind_some, reverse_eq _ (by rw [List.length_drop]; omega), Option.bind_some, getDL h1]
theorem shn_len {S : List Int} {own : Nat} : ∀ {B : List Int} {T : List (List Int)} {q : List Move × List Int}, shn S own T B = some q → q.1.length = 2 * B.length ∧ q.2.length = B.length
  | [], T, q, h => by unfold shn at h; cases h; exact ⟨rfl, rfl⟩
  | b :: B, T, q, h => by
    rw [shn] at h
    split at h
    · cases h
    · split at h
      · cases h
      · obtain ⟨q', hq, rfl⟩ := Option.map_eq_some_iff.1 h
        have := shn_len hq
        simp; omega
/-- The moves are performed, and then the vehicle has left. -/
theorem shn_run {S : List Int} {own : Nat} {p : List Int} {v : Int} : ∀ {B : List Int} {T : List (List Int)} {q : List Move × List Int}, ShI S own (p ++ [v]) T B → shn S own T B = some q →
    (rn S T (q.1 ++ [⟨v, true⟩]) q.2).1 = q.1.length + 1 ∧ v ∉ (rn S T (q.1 ++ [⟨v, true⟩]) q.2).2.flatten
  | [], T, q, hI, h => by
    unfold shn at h; cases h
    obtain ⟨hD, hr⟩ := hI
    simp only [List.reverse_nil, List.append_nil] at hr
    have h1 := tk_last hD hr
    have h2 := (tk_some hD h1).2.1
    rw [List.nil_append, rn_out rfl, h1]
    exact ⟨rfl, h2⟩
  | b :: B, T, q, hI, h => by
    obtain ⟨g1, g2, g3, g4⟩ := shI_step hI
    generalize T.set own (p ++ [v] ++ B.reverse) = T' at g1 g2 g3
    rw [shn, g1] at h
    dsimp only at h
    cases hft : ft S own T' with
    | none => rw [hft] at h; cases h
    | some t =>
      rw [hft] at h
      dsimp only at h
      obtain ⟨f1, f2, f3⟩ := ft_at hft
      obtain ⟨q', hq, rfl⟩ := Option.map_eq_some_iff.1 h
      obtain ⟨k1, k2⟩ := shI_park g2 g3 g4 f1 f3
      obtain ⟨r1, r2⟩ := shn_run (k2 f2) hq
      dsimp only
      rw [List.cons_append, List.cons_append, rn_out rfl]
      dsimp only
      rw [g1]
      dsimp only
      rw [rn_in rfl]
      dsimp only
      rw [k1]
      refine ⟨?_, r2⟩
      show (rn S _ _ _).1 + 1 + 1 = _
      rw [r1]; simp
theorem shunt_both {d : Depot} (hb : DB d.Sizes d.Tracks) (v : Int) : ∃ r : List Move × List Int × Bool, i_ShuntingMoves d v = some r ∧ s_ShuntingMoves d v = some r ∧ r.1.length ≤ 1000 ∧ r.2.1.length ≤ 1000 ∧
    (r.2.2 = true → DI d.Sizes d.Tracks ∧ (rn d.Sizes d.Tracks r.1 r.2.1).1 = r.1.length ∧ v ∉ (rn d.Sizes d.Tracks r.1 r.2.1).2.flatten) := by
  obtain ⟨S, T⟩ := d
  unfold i_ShuntingMoves s_ShuntingMoves
  rw [ivalid_eq hb, svalid_eq hb, strack_eq (d := ⟨S, T⟩) hb.2.1 hb.2.2, iblock_eq (d := ⟨S, T⟩) hb]
  simp only [Option.bind_some]
  by_cases hD : DI S T
  · have hd : (!(@decide (DI S T) (Classical.propDecidable _))) = false := by simp [hD]
    simp only [hd, Bool.false_eq_true, if_false]
    unfold plv
    cases hp : pl T v with
    | none => exact ⟨([], [], false), by simp, by simp, by simp, by simp, fun h => (by cases h)⟩
    | some w =>
      obtain ⟨own, k⟩ := w
      obtain ⟨r, h1, h2⟩ := pl_at hp
      have hrl := hb.2.2 r (List.mem_of_getElem? h1)
      have hkl := get_lt h2
      have h0 : decide ((own : Int) < 0) = false := by simp
      have hI : ShI S own (r.take k ++ [v]) T (r.drop (k + 1)).reverse := ⟨hD, by rw [List.reverse_reverse, ← take_succ h2, List.take_append_drop]; exact h1⟩
      dsimp only
      simp only [h0, Bool.false_eq_true, if_false, Option.bind_some]
      rw [getDL h1, icopy_eq (d := ⟨S, T⟩) hb, sown_eq (d := ⟨S, T⟩) hb, Option.bind_some, Option.bind_some, sblock_eq (d := ⟨S, T⟩) h1 hkl hrl, Option.bind_some]
      generalize hBq : (r.drop (k + 1)).reverse = B at hI
      have hBl := blk_len hI
      obtain ⟨o1, e1, t1⟩ := ishunt_eq hI
      obtain ⟨o2, e2, t2⟩ := sshunt_eq hI (k : Int)
      dsimp only at e1 e2 ⊢
      rw [e1, e2, t1, t2]
      cases hs : shn S own T B with
      | none => exact ⟨([], [], false), rfl, rfl, by simp, by simp, fun h => (by cases h)⟩
      | some q =>
        obtain ⟨l1, l2⟩ := shn_len hs
        obtain ⟨r1, r2⟩ := shn_run hI hs
        dsimp only
        rw [flb_go, chk_of (by rw [List.length_singleton]; omega)]
        refine ⟨(q.1 ++ [⟨v, true⟩], q.2, true), rfl, rfl, by simp; omega, by simp; omega, fun _ => ⟨hD, by rw [r1]; simp, r2⟩⟩
  · have hd : (!(@decide (DI S T) (Classical.propDecidable _))) = true := by simp [hD]
    simp only [hd, if_true]
    exact ⟨([], [], false), rfl, rfl, by simp, by simp, fun h => (by cases h)⟩
theorem iblockers_gone {d : Depot} (hD : DI d.Sizes d.Tracks) {v : Int} (h : v ∉ d.Tracks.flatten) : i_BlockersOf d v = some ([], false) := by
  unfold i_BlockersOf
  rw [ivalid_eq hD.db, iblock_eq hD.db, pl_none_iff.2 h]
  simp [hD]
/-- Vehicles are taken one after the other. -/
def ord : Nat → List (List Int) → List Int → Option (List Int)
  | 0, _, _ => some []
  | n + 1, T, l => match l.find? (fun x => (tk T x).isSome) with
    | none => none
    | some e => match tk T e with
      | none => none
      | some T' => (ord n T' l).map fun r => e :: r
theorem tk_gone {T : List (List Int)} {v : Int} (h : v ∉ T.flatten) : tk T v = none := by unfold tk; rw [pl_none_iff.2 h]
theorem tk_sub {S : List Int} {T T' : List (List Int)} {v x : Int} (hD : DI S T) (h : tk T v = some T') (hx : x ∉ T.flatten) : x ∉ T'.flatten := by
  obtain ⟨h1, h2, i, r, h3, rfl⟩ := tk_some hD h
  have hq : (T.set i r)[i]? = some r := List.getElem?_set_self (get_lt h3)
  have hback : (T.set i r).set i (r ++ [v]) = T := by rw [List.set_set]; exact set_same h3
  have hpm := set_perm v hq
  rw [hback] at hpm
  exact fun hm => hx (hpm.mem_iff.2 (List.mem_cons_of_mem _ hm))
/-- The orders that are told can be taken. -/
theorem ord_taken {S : List Int} : ∀ {n : Nat} {T : List (List Int)} {l r : List Int}, DI S T → ord n T l = some r → r.length = n ∧ ∃ f : Nat → List (List Int), f 0 = T ∧ ∀ (i : Nat) (e : Int), r[i]? = some e → tk (f i) e = some (f (i + 1)) ∧ DI S (f i)
  | 0, T, l, r, hD, h => by unfold ord at h; cases h; exact ⟨rfl, fun _ => T, rfl, fun i e he => by simp at he⟩
  | n + 1, T, l, r, hD, h => by
    unfold ord at h
    split at h
    · cases h
    · rename_i e _
      split at h
      · cases h
      · rename_i T' ht
        obtain ⟨q, hq, rfl⟩ := Option.map_eq_some_iff.1 h
        obtain ⟨h1, f, h2, h3⟩ := ord_taken (tk_some hD ht).1 hq
        refine ⟨by simp; omega, fun i => match i with | 0 => T | j + 1 => f j, rfl, fun i x hx => ?_⟩
        cases i with
        | zero =>
          simp only [List.getElem?_cons_zero, Option.some.injEq] at hx
          subst hx
          exact ⟨by show tk T e = some (f 0); rw [h2]; exact ht, hD⟩
        | succ i => exact h3 i x (by simpa using hx)
/-! The order in which vehicles leave, by both. -/
theorem find_at {p : Int → Bool} {l : List Int} {i : Nat} {x : Int} (hx : l[i]? = some x) (hp : p x = true) (hn : ∀ (j : Nat) y, j < i → l[j]? = some y → p y = false) : l.find? p = some x := by
  have e : l = l.take i ++ x :: l.drop (i + 1) := by rw [← drop_at hx, List.take_append_drop]
  rw [e, List.find?_append]
  have : (l.take i).find? p = none := List.find?_eq_none.2 fun y hy => by
    obtain ⟨j, hj⟩ := List.getElem?_of_mem hy
    have hji := get_lt hj
    rw [List.length_take] at hji
    rw [List.getElem?_take_of_lt (by omega)] at hj
    rw [hn j y (by omega) hj]; simp
  rw [this, List.find?_cons, hp]; rfl
theorem find_no {p : Int → Bool} {l : List Int} (hn : ∀ (j : Nat) y, l[j]? = some y → p y = false) : l.find? p = none := List.find?_eq_none.2 fun y hy => by
  obtain ⟨j, hj⟩ := List.getElem?_of_mem hy
  rw [hn j y hj]; simp
theorem find_sub {p : Int → Bool} : ∀ {a l : List Int}, a.Sublist l → l.Nodup → (∀ x ∈ l, x ∉ a → p x = false) → a.find? p = l.find? p
  | _, _, .slnil, _, _ => rfl
  | a, x :: l, .cons _ h, hn, hp => by
    have hxl := (List.nodup_cons.1 hn).1
    have hxa : x ∉ a := fun hm => hxl (h.subset hm)
    rw [List.find?_cons, hp x (List.mem_cons_self ..) hxa]
    exact find_sub h (List.nodup_cons.1 hn).2 fun y hy => hp y (List.mem_cons_of_mem _ hy)
  | x :: a, _ :: l, .cons_cons _ h, hn, hp => by
    have hxl := (List.nodup_cons.1 hn).1
    rw [List.find?_cons, List.find?_cons]
    cases p x with
    | true => rfl
    | false =>
      refine find_sub h (List.nodup_cons.1 hn).2 fun y hy hya => hp y (List.mem_cons_of_mem _ hy) fun hm => ?_
      rcases List.mem_cons.1 hm with rfl | hm
      · exact hxl hy
      · exact hya hm
theorem sorderF_eq {S : List Int} {l : List Int} (hl : l.length ≤ 1000) {rec_ : Depot → List Int → List Int → Option (List Int × Bool)} {T : List (List Int)} (hD : DI S T) {q : List Int} (hq : q.length ≤ l.length)
    (hrec : ∀ (U : List (List Int)) (x : Int), q.length < l.length → DI S U → rec_ ⟨S, U⟩ l (q ++ [x]) = some (ansS (q ++ [x]) (ord (l.length - (q.length + 1)) U l))) :
    s_l15Order_m_F rec_ ⟨S, T⟩ l q = some (ansS q (ord (l.length - q.length) T l)) := by
  unfold s_l15Order_m_F
  by_cases hc : q.length = l.length
  · rw [if_pos (by simp; omega), hc, Nat.sub_self]; simp [ord, ansS]
  · rw [if_neg (by simp; omega), show l.length - q.length = (l.length - (q.length + 1)) + 1 by omega, ord]
    refine Tot.val (.flb (.mono (P := fun o => (o = .go () ∧ l.find? (fun x => (tk T x).isSome) = none) ∨ ∃ x T', l.find? (fun x => (tk T x).isSome) = some x ∧ tk T x = some T' ∧ o = .ret (ansS (q ++ [x]) (ord (l.length - (q.length + 1)) T' l))) ?_ ?_))
    · refine .iter (fun m (w : Int) => ∃ i : Nat, m + i = l.length ∧ w = (i : Int) ∧ ∀ (j : Nat) y, j < i → l[j]? = some y → (tk T y).isSome = false) (n := l.length) ⟨0, by omega, rfl, fun j y h => by omega⟩ ?_
      rintro m w ⟨i, hm, rfl, hn⟩
      unfold s_l15Order_m_L1
      dsimp only
      refine .iteP (fun hlt => ?_) (fun hge => .dn (.inl ⟨rfl, find_no fun j y hy => hn j y (by have := get_lt hy; omega) hy⟩))
      obtain ⟨x, hx⟩ := get_ex (l := l) (i := i) (by omega)
      rw [ixs hx, Option.bind_some, stake_eq (d := ⟨S, T⟩) hD.db, Option.bind_some]
      cases ht : tk T x with
      | none =>
        simp only [Bool.not_false, if_true]
        refine .nx ⟨m - 1, by omega, i + 1, by omega, w64_succ (by omega), fun j y hj hy => ?_⟩
        by_cases hji : j = i
        · subst hji; rw [hx] at hy; cases hy; rw [ht]; rfl
        · exact hn j y (by omega) hy
      | some T' =>
        simp only [Bool.not_true, Bool.false_eq_true, if_false]
        rw [own0_eq _ (by omega), Option.bind_some, Option.bind_some, chk_of (by rw [List.length_singleton]; omega), Option.bind_some, hrec T' x (by omega) (tk_some hD ht).1, Option.bind_some]
        have hfi := find_at (p := fun x => (tk T x).isSome) hx (by rw [ht]; rfl) hn
        cases ho : ord (l.length - (q.length + 1)) T' l with
        | none =>
          simp only [ansS, Bool.false_eq_true, if_false]
          exact .dn (.inr ⟨x, T', hfi, ht, by rw [ho]; try rfl⟩)
        | some r =>
          simp only [ansS, if_true]
          exact .dn (.inr ⟨x, T', hfi, ht, by rw [ho]; try rfl⟩)
    · rintro o (⟨rfl, h⟩ | ⟨x, T', h, ht, rfl⟩)
      · refine ⟨fun r e => (by cases e), fun u _ => .ok ?_⟩
        rw [h]; rfl
      · refine ⟨fun r e => ?_, fun u e => (by cases e)⟩
        cases e
        rw [h]
        dsimp only
        rw [ht]
        dsimp only
        cases ord (l.length - (q.length + 1)) T' l with
        | none => rfl
        | some r => simp [ansS]
theorem sorderK_eq {S : List Int} {l : List Int} (hl : l.length ≤ 1000) : ∀ {n : Nat} {T : List (List Int)} {q : List Int}, l.length < n + q.length → q.length ≤ l.length → DI S T → s_l15Order_m_k n ⟨S, T⟩ l q = some (ansS q (ord (l.length - q.length) T l))
  | 0, T, q, h, hq, _ => by omega
  | n + 1, T, q, h, hq, hD => sorderF_eq hl hD hq fun U x h1 h2 => by
    have := sorderK_eq hl (n := n) (T := U) (q := q ++ [x]) (by simp; omega) (by simp; omega) h2
    rw [List.length_append, List.length_singleton] at this
    exact this
theorem sorder_eq {S : List Int} {l : List Int} (hl : l.length ≤ 1000) {T : List (List Int)} (hD : DI S T) : s_l15Order ⟨S, T⟩ l [] = some (ansA (ord l.length T l)) := by
  have h := sorderF_eq (rec_ := s_l15Order_m) hl hD (q := []) (by simp) fun U x h1 h2 => by
    have := sorderK_eq hl (n := 4294967296) (T := U) (q := [] ++ [x]) (by simp; omega) (by simp; omega) h2
    exact this
  have e : s_l15Order ⟨S, T⟩ l [] = s_l15Order_m_F s_l15Order_m ⟨S, T⟩ l [] := rfl
  rw [e, h]
  show some (ansS [] (ord (l.length - 0) T l)) = _
  rw [Nat.sub_zero]
  cases ord l.length T l <;> rfl
/-- The first of the rest that can be taken. -/
theorem ifirst_eq {S : List Int} {T : List (List Int)} (hD : DI S T) {a : List Int} (ha : a.length ≤ 1000) : ∃ w : Int × List (List Int), slices_IndexFunc_int_c_w__i_DepartureOrder_1 a ⟨S, T⟩ = some w ∧ ((w = (-1, T) ∧ a.find? (fun x => (tk T x).isSome) = none) ∨ ∃ (i : Nat) (x : Int), w.1 = (i : Int) ∧ a[i]? = some x ∧ tk T x = some w.2 ∧ a.find? (fun x => (tk T x).isSome) = some x) := by
  unfold slices_IndexFunc_int_c_w__i_DepartureOrder_1
  obtain ⟨w, h1, h2⟩ : Tot (flb (iter (slices_IndexFunc_int_c_w__i_DepartureOrder_1_L1 a ⟨S, T⟩) ((0 : Int), T)) fun (v2 : List (List Int)) => some ((-1 : Int), v2)) fun w => (w = (-1, T) ∧ a.find? (fun x => (tk T x).isSome) = none) ∨ ∃ (i : Nat) (x : Int), w.1 = (i : Int) ∧ a[i]? = some x ∧ tk T x = some w.2 ∧ a.find? (fun x => (tk T x).isSome) = some x := by
    refine .flb (.iter (fun m (st : Int × List (List Int)) => ∃ i : Nat, m + i = a.length ∧ st.1 = (i : Int) ∧ st.2 = T ∧ ∀ (j : Nat) y, j < i → a[j]? = some y → (tk T y).isSome = false) (n := a.length) ⟨0, by omega, rfl, rfl, fun j y h => by omega⟩ ?_)
    rintro m ⟨w, U⟩ ⟨i, hm, hw, hU, hn⟩
    dsimp only at hw hU
    subst hw; subst hU
    unfold slices_IndexFunc_int_c_w__i_DepartureOrder_1_L1
    dsimp only
    refine .iteP (fun hlt => ?_) (fun hge => .dn ⟨fun r e => (by cases e), fun u e => (by cases e; exact .ok (.inl ⟨rfl, find_no fun j y hy => hn j y (by have := get_lt hy; omega) hy⟩))⟩)
    obtain ⟨x, hx⟩ := get_ex (l := a) (i := i) (by omega)
    unfold i_DepartureOrder_1_b
    dsimp only
    rw [ixs hx, Option.bind_some, itake_eq (d := ⟨S, U⟩) hD.db, Option.bind_some, Option.bind_some]
    cases ht : tk U x with
    | none =>
      dsimp only
      rw [if_neg (by simp)]
      refine .nx ⟨m - 1, by omega, i + 1, by omega, w64_succ (by omega), rfl, fun j y hj hy => ?_⟩
      by_cases hji : j = i
      · subst hji; rw [hx] at hy; cases hy; rw [ht]; rfl
      · exact hn j y (by omega) hy
    | some T' =>
      dsimp only
      rw [if_pos rfl]
      exact .dn ⟨fun r e => (by cases e; exact .inr ⟨i, x, rfl, hx, ht, find_at (p := fun x => (tk U x).isSome) hx (by rw [ht]; rfl) hn⟩), fun u e => (by cases e)⟩
  exact ⟨w, h1, h2⟩
theorem iorder_eq {S : List Int} {T : List (List Int)} (hD : DI S T) {l : List Int} (hl : l.length ≤ 1000) (hn : l.Nodup) : Tot (iter (i_DepartureOrder_L2 ⟨S, T⟩) (([] : List Int), l, T)) fun o => (∃ r, ord l.length T l = some r ∧ o = .go r) ∨ (ord l.length T l = none ∧ o = .ret ([], false, true)) := by
  refine .iter (fun m (st : List Int × List Int × List (List Int)) => m = st.2.1.length ∧ st.1.length + m = l.length ∧ st.2.1.Sublist l ∧ DI S st.2.2 ∧ (∀ x ∈ l, x ∉ st.2.1 → x ∉ st.2.2.flatten) ∧ ord l.length T l = (ord m st.2.2 l).map (st.1 ++ ·)) (n := l.length) ⟨rfl, by simp, List.Sublist.refl _, hD, fun x h1 h2 => absurd h1 h2, by cases ord l.length T l <;> simp⟩ ?_
  rintro m ⟨k, a, U⟩ ⟨hm, hk, hs, hDU, hg, hA⟩
  dsimp only at hm hk hs hDU hg hA
  have hal := hs.length_le
  unfold i_DepartureOrder_L2
  dsimp only
  refine .iteP (fun hlt => ?_) (fun hge => .dn ?_)
  · obtain ⟨w, e1, e2⟩ := ifirst_eq hDU (a := a) (by omega)
    have hff := find_sub (p := fun x => (tk U x).isSome) hs hn fun x hx hxa => by rw [tk_gone (hg x hx hxa)]; rfl
    obtain ⟨m', rfl⟩ : ∃ m', m = m' + 1 := ⟨m - 1, by omega⟩
    rw [ord, ← hff] at hA
    rw [e1, Option.bind_some]
    rcases e2 with ⟨rfl, hf⟩ | ⟨i, x, h1, h2, h3, h4⟩
    · rw [hf] at hA
      dsimp only
      rw [if_pos (by simp)]
      exact .dn (.inr ⟨hA, rfl⟩)
    · obtain ⟨w1, U'⟩ := w
      dsimp only at h1 h3
      subst h1
      rw [h4] at hA
      dsimp only at hA ⊢
      rw [h3] at hA
      dsimp only at hA
      have hi := get_lt h2
      rw [if_neg (by simp), ixs h2, Option.bind_some, chk_of (by rw [List.length_singleton]; omega), Option.bind_some, w64_succ (by omega)]
      unfold slices_Delete_int_m delM
      rw [if_pos ⟨by omega, by omega, by omega⟩, Option.bind_some, Int.toNat_natCast, Int.toNat_natCast]
      have hda := drop_at h2
      have hsub : (a.take i ++ a.drop (i + 1)).Sublist a := by
        have h5 : (a.take i ++ a.drop (i + 1)).Sublist (a.take i ++ a.drop i) := by
          rw [hda]; exact (List.Sublist.refl _).append (List.sublist_cons_self ..)
        rwa [List.take_append_drop] at h5
      refine .nx ⟨m', by omega, by simp; omega, by simp; omega, hsub.trans hs, (tk_some hDU h3).1, fun y hy hyn => ?_, ?_⟩
      · dsimp only at hyn ⊢
        by_cases hya : y ∈ a
        · have : y = x := by
            rw [← List.take_append_drop i a, hda] at hya
            rcases List.mem_append.1 hya with h | h
            · exact absurd (List.mem_append_left _ h) hyn
            · rcases List.mem_cons.1 h with h | h
              · exact h
              · exact absurd (List.mem_append_right _ h) hyn
          subst this
          exact (tk_some hDU h3).2.1
        · exact tk_sub hDU h3 (hg y hy hya)
      · rw [hA]
        cases ord m' U' l <;> simp
  · have ha : a = [] := List.eq_nil_of_length_eq_zero (by omega)
    subst ha
    simp only [List.length_nil] at hm
    subst hm
    exact .inl ⟨k, by rw [hA]; simp [ord], rfl⟩
def RisP (l : List Int) : Prop := ∀ (i : Nat) (x : Int), l[i]? = some x → 0 < i → ∀ y, l[i - 1]? = some y → y < x
theorem ris_nodup {l : List Int} (h : RisP l) : l.Nodup := by
  have key : ∀ (d i : Nat) (x y : Int), l[i]? = some x → l[i + d + 1]? = some y → x < y := by
    intro d
    induction d with
    | zero => intro i x y hx hy; exact h (i + 1) y hy (by omega) x hx
    | succ d ih =>
      intro i x y hx hy
      obtain ⟨z, hz⟩ := get_ex (l := l) (i := i + d + 1) (by have := get_lt hy; omega)
      have h1 := ih i x z hx hz
      have h2 := h (i + d + 1 + 1) y hy (by omega) z hz
      omega
  rw [List.Nodup, List.pairwise_iff_getElem]
  intro i j hi hj hij
  have := key (j - i - 1) i _ _ (List.getElem?_eq_getElem hi) (by rw [show i + (j - i - 1) + 1 = j by omega]; exact List.getElem?_eq_getElem hj)
  omega
theorem order_both {d : Depot} (hb : DB d.Sizes d.Tracks) {l : List Int} (hl : l.length ≤ 1000) : ∃ r : List Int × Bool × Bool, i_DepartureOrder d l = some r ∧ s_DepartureOrder d l = some r ∧ r.1.length ≤ 1000 ∧
    (r.2.1 = true → DI d.Sizes d.Tracks ∧ ord l.length d.Tracks l = some r.1) := by
  obtain ⟨S, T⟩ := d
  unfold i_DepartureOrder s_DepartureOrder
  rw [ivalid_eq hb, svalid_eq hb, Option.bind_some, Option.bind_some]
  by_cases hD : DI S T
  · have hd : (!(@decide (DI S T) (Classical.propDecidable _))) = false := by simp [hD]
    simp only [hd, Bool.false_eq_true, if_false]
    have hi := all_valR (hd := Classical.propDecidable _) (([], false, false) : List Int × Bool × Bool) l (fun i x => x ∈ T.flatten ∧ (0 < i → ∀ y, l[i - 1]? = some y → y < x)) (step := i_DepartureOrder_L1 ⟨S, T⟩ l) (fun i x hx => ?_) (by unfold i_DepartureOrder_L1; simp)
    have hs1 : s_l1Rising l 1 99 = some (@decide (∀ (i : Nat) x, l[i]? = some x → (1 ≤ x ∧ x ≤ 99) ∧ (0 < i → ∀ y, l[i - 1]? = some y → y < x)) (Classical.propDecidable _)) := ?_
    have hs2 := all_valR (hd := Classical.propDecidable _) (([], false, false) : List Int × Bool × Bool) l (fun i x => x ∈ T.flatten) (step := s_DepartureOrder_L1 ⟨S, T⟩ l) (fun i x hx => ?_) (by unfold s_DepartureOrder_L1; simp)
    · rw [hi, hs1]
      simp only [Option.bind_some]
      rw [hs2]
      by_cases hP : ∀ (i : Nat) x, l[i]? = some x → x ∈ T.flatten ∧ (0 < i → ∀ y, l[i - 1]? = some y → y < x)
      · have hR : ∀ (i : Nat) x, l[i]? = some x → (1 ≤ x ∧ x ≤ 99) ∧ (0 < i → ∀ y, l[i - 1]? = some y → y < x) := fun i x hx => by
          obtain ⟨r, r1, r2⟩ := flat_mem.1 (hP i x hx).1
          exact ⟨hD.2.2.2.1 r r1 x r2, (hP i x hx).2⟩
        have hM : ∀ (i : Nat) x, l[i]? = some x → x ∈ T.flatten := fun i x hx => (hP i x hx).1
        have hn := ris_nodup (l := l) fun i x hx h0 y hy => (hP i x hx).2 h0 y hy
        rw [if_pos hP, icopy_eq (d := ⟨S, T⟩) hb, Option.bind_some, cloneI_eq _ hl, Option.bind_some, if_neg (by rw [@decide_eq_true _ (Classical.propDecidable _) hR]; simp), if_pos hM, sorder_eq hl hD, Option.bind_some]
        obtain ⟨o, e1, e2⟩ := iorder_eq hD hl hn
        dsimp only at e1 ⊢
        rw [e1]
        rcases e2 with ⟨r, h1, rfl⟩ | ⟨h1, rfl⟩
        · have := (ord_taken hD h1).1
          exact ⟨(r, true, true), rfl, by rw [h1]; rfl, by show r.length ≤ 1000; omega, fun _ => ⟨hD, h1⟩⟩
        · exact ⟨([], false, true), rfl, by rw [h1]; rfl, by simp, fun h => (by cases h)⟩
      · refine ⟨([], false, false), by rw [if_neg hP], ?_, by simp, fun h => (by cases h)⟩
        by_cases hR : ∀ (i : Nat) x, l[i]? = some x → (1 ≤ x ∧ x ≤ 99) ∧ (0 < i → ∀ y, l[i - 1]? = some y → y < x)
        · have hM : ¬ ∀ (i : Nat) x, l[i]? = some x → x ∈ T.flatten := fun hM => hP fun i x hx => ⟨hM i x hx, (hR i x hx).2⟩
          rw [if_neg (by rw [@decide_eq_true _ (Classical.propDecidable _) hR]; simp), if_neg hM]
        · rw [if_pos (by rw [@decide_eq_false _ (Classical.propDecidable _) hR]; rfl)]
    · have hil := get_lt hx
      unfold s_DepartureOrder_L1
      dsimp only
      rw [if_pos (by rw [decide_eq_true_eq]; omega), ixs hx, Option.bind_some, strack_eq (d := ⟨S, T⟩) hb.2.1 hb.2.2, Option.bind_some]
      unfold plv
      cases hp : pl T x with
      | none => right; exact ⟨by simp, pl_none_iff.1 hp⟩
      | some w =>
        left
        dsimp only
        rw [if_neg (by simp), w64_succ (by omega)]
        exact ⟨rfl, Classical.byContradiction fun hn => by rw [pl_none_iff.2 hn] at hp; cases hp⟩
    · unfold s_l1Rising
      rw [all_val (hd := Classical.propDecidable _) l (fun i x => (1 ≤ x ∧ x ≤ 99) ∧ (0 < i → ∀ y, l[i - 1]? = some y → y < x)) (fun i x hx => ?_) (by unfold s_l1Rising_L1; simp)]
      · by_cases hR : ∀ (i : Nat) x, l[i]? = some x → (1 ≤ x ∧ x ≤ 99) ∧ (0 < i → ∀ y, l[i - 1]? = some y → y < x)
        · rw [if_pos hR, @decide_eq_true _ (Classical.propDecidable _) hR]
        · rw [if_neg hR, @decide_eq_false _ (Classical.propDecidable _) hR]
      · have hil := get_lt hx
        unfold s_l1Rising_L1
        dsimp only
        rw [if_pos (by rw [decide_eq_true_eq]; omega), ixs hx, Option.bind_some, l1In_eq, Option.bind_some]
        by_cases h1 : 1 ≤ x ∧ x ≤ 99
        · rw [if_neg (by simpa using h1)]
          by_cases h0 : 0 < i
          · obtain ⟨y, hy⟩ := get_ex (l := l) (i := i - 1) (by omega)
            rw [if_pos (by rw [decide_eq_true_eq]; omega), show w64 ((i : Int) - 1) = ((i - 1 : Nat) : Int) by rw [w64_id (by omega)]; omega, ixs hy, Option.bind_some, Option.bind_some, Option.bind_some]
            by_cases hc : x ≤ y
            · right
              rw [if_pos (decide_eq_true hc)]
              exact ⟨rfl, fun h => by have := h.2 h0 y hy; omega⟩
            · left
              rw [if_neg (by simpa using hc), w64_succ (by omega)]
              exact ⟨rfl, h1, fun _ z hz => by rw [hy] at hz; cases hz; omega⟩
          · left
            rw [if_neg (by rw [decide_eq_true_eq]; omega), Option.bind_some, if_neg (by simp), w64_succ (by omega)]
            exact ⟨rfl, h1, fun h => absurd h h0⟩
        · right
          rw [if_pos (by simp; omega), Option.bind_some, if_pos rfl]
          exact ⟨rfl, fun h => h1 h.1⟩
    · -- the program's check
      have hil := get_lt hx
      unfold i_DepartureOrder_L1
      dsimp only
      rw [if_pos (by rw [decide_eq_true_eq]; omega), ixs hx, Option.bind_some, iplace_eq hb.2.1 hb.2.2, Option.bind_some]
      unfold plv
      cases hp : pl T x with
      | none =>
        right
        refine ⟨by simp, fun h => absurd h.1 (pl_none_iff.1 hp)⟩
      | some w =>
        have hm : x ∈ T.flatten := Classical.byContradiction fun hn => by rw [pl_none_iff.2 hn] at hp; cases hp
        dsimp only
        rw [if_neg (by simp)]
        by_cases h0 : 0 < i
        · obtain ⟨y, hy⟩ := get_ex (l := l) (i := i - 1) (by omega)
          rw [if_pos (by rw [decide_eq_true_eq]; omega), show w64 ((i : Int) - 1) = ((i - 1 : Nat) : Int) by rw [w64_id (by omega)]; omega, ixs hy, Option.bind_some, Option.bind_some]
          by_cases hc : x ≤ y
          · right
            rw [if_pos (decide_eq_true hc)]
            exact ⟨rfl, fun h => by have := h.2 h0 y hy; omega⟩
          · left
            rw [if_neg (by simpa using hc), w64_succ (by omega)]
            exact ⟨rfl, hm, fun _ z hz => by rw [hy] at hz; cases hz; omega⟩
        · left
          rw [if_neg (by rw [decide_eq_true_eq]; omega), Option.bind_some, if_neg (by simp), w64_succ (by omega)]
          exact ⟨rfl, hm, fun h => absurd h h0⟩
  · have hd : (!(@decide (DI S T) (Classical.propDecidable _))) = true := by simp [hD]
    simp only [hd, if_true, Option.bind_some]
    exact ⟨([], false, false), rfl, rfl, by simp, fun h => (by cases h)⟩
/-! Tracks assigned by both. -/
theorem countO_eq (l : List Move) (hl : l.length ≤ 1000) : ∃ n : Int, iter (i_AssignTracks_L1 l) ((0 : Int), (0 : Int)) = some n ∧ iter (s_AssignTracks_L1 l) ((0 : Int), (0 : Int)) = some n := by
  have e : i_AssignTracks_L1 l = s_AssignTracks_L1 l := rfl
  rw [e]
  obtain ⟨n, h, _⟩ : Tot (iter (s_AssignTracks_L1 l) ((0 : Int), (0 : Int))) fun _ => True := by
    refine .iter (fun m (st : Int × Int) => ∃ i : Nat, m + i = l.length ∧ st.2 = (i : Int)) (n := l.length) ⟨0, by omega, rfl⟩ ?_
    rintro m ⟨a, w⟩ ⟨i, hm, hw⟩
    dsimp only at hw
    subst hw
    unfold s_AssignTracks_L1
    dsimp only
    refine .iteP (fun hlt => .call (P := fun _ => True) (.idx (by omega) (by omega) fun x _ => .ite (fun _ => .ok trivial) (fun _ => .ok trivial)) fun b _ => .nx ⟨m - 1, by omega, i + 1, by omega, w64_succ (by omega)⟩) (fun _ => .dn trivial)
  exact ⟨n, h, h⟩
theorem assign_both {d : Depot} (hb : DB d.Sizes d.Tracks) {l : List Move} (hl : l.length ≤ 1000) : ∃ r : List Int × Bool × Bool, i_AssignTracks d l = some r ∧ s_AssignTracks d l = some r ∧ r.1.length ≤ 1000 ∧
    (r.2.1 = true → l.length ≤ 20 ∧ DI d.Sizes d.Tracks ∧ (rn d.Sizes d.Tracks l r.1).1 = l.length) := by
  obtain ⟨S, T⟩ := d
  obtain ⟨n, e1, e2⟩ := countO_eq l hl
  unfold i_AssignTracks s_AssignTracks
  rw [e1, e2, Option.bind_some, Option.bind_some, ivalid_eq hb, svalid_eq hb, Option.bind_some, Option.bind_some]
  by_cases hD : DI S T
  · have hd : (!(@decide (DI S T) (Classical.propDecidable _))) = false := by simp [hD]
    simp only [hd, Bool.false_eq_true, if_false]
    by_cases h12 : 12 < (l.length : Int)
    · simp only [h12, decide_true, if_true, Option.bind_some]
      exact ⟨([], false, false), rfl, rfl, by simp, fun h => (by cases h)⟩
    · simp only [h12, decide_false, Bool.false_eq_true, if_false, Option.bind_some]
      by_cases h6 : 6 < n
      · simp only [h6, decide_true, if_true]
        exact ⟨([], false, false), rfl, rfl, by simp, fun h => (by cases h)⟩
      · simp only [h6, decide_false, Bool.false_eq_true, if_false]
        rw [iassign0_eq hl hD, sassign_eq hl hD, Option.bind_some]
        cases ha : asg S T l with
        | none => exact ⟨([], false, true), rfl, rfl, by simp, fun h => (by cases h)⟩
        | some r =>
          have := asg_len ha
          exact ⟨(r, true, true), rfl, rfl, by show r.length ≤ 1000; omega, fun _ => ⟨by omega, hD, asg_rn ha⟩⟩
  · have hd : (!(@decide (DI S T) (Classical.propDecidable _))) = true := by simp [hD]
    simp only [hd, if_true, Option.bind_some]
    exact ⟨([], false, false), rfl, rfl, by simp, fun h => (by cases h)⟩
/-! Draws of depots, vehicles, moves. -/
/-- What depots are drawn. -/
def DS (S : List Int) (T : List (List Int)) : Prop := S.length ≤ 10 ∧ T.length ≤ 10 ∧ ∀ r ∈ T, r.length ≤ 20
theorem DS.db {S : List Int} {T : List (List Int)} (h : DS S T) : DB S T := ⟨by have := h.1; omega, by have := h.2.1; omega, fun r hr => by have := h.2.2 r hr; omega⟩
theorem t_depot {k : Nat} {c : l1Cur} (h : Cur k c) (hk : k ≤ 1000000) : Tot (s_l1Cur_depot c) fun r => Cur (k + 1000) r.2 ∧ DS r.1.Sizes r.1.Tracks := by
  unfold s_l1Cur_depot
  refine .call (t_pick 3 h (by omega)) fun r ⟨h1, h2, h3⟩ => ?_
  refine .call (P := fun o => Cur (k + 500) ⟨o.1, o.2.1, ⟨o.2.2.1⟩⟩ ∧ o.2.2.2.1.length ≤ 4 ∧ (1 ≤ o.2.2.2.2.length ∧ o.2.2.2.2.length ≤ 4) ∧ ∀ r ∈ o.2.2.2.2, r.length ≤ 10)
    (.iter (fun m (st : Int × Int × List UInt8 × Int × Int × List Int × List (List Int)) => st.2.1 = (m : Int) ∧ m ≤ 3 ∧ Cur (k + 2 + (3 - m) * 50) ⟨st.2.2.1, st.2.2.2.1, ⟨st.2.2.2.2.1⟩⟩ ∧ st.2.2.2.2.2.1.length + m ≤ 3 ∧ st.2.2.2.2.2.2.length + m ≤ 3 ∧ (1 ≤ st.2.2.2.2.2.2.length + m) ∧ ∀ r ∈ st.2.2.2.2.2.2, r.length ≤ 10) (n := (1 + r.1).toNat) ⟨by show w64 (1 + r.1) = _; rw [w64_id (by omega)]; omega, by omega, h1.mono (by omega), by show 0 + _ ≤ 3; omega, by show 0 + _ ≤ 3; omega, by show 1 ≤ 0 + _; omega, by simp⟩ ?_) fun o ho => ?_
  · rintro m ⟨a, b, c1, c2, c3, S, T⟩ ⟨hb, hm, hc, hS, hT, hT1, hr⟩
    dsimp only at hb hc hS hT hT1 hr
    subst hb
    unfold s_l1Cur_depot_L2
    dsimp only
    refine .iteP (fun hlt => ?_) (fun hge => .dn ⟨hc.mono (by omega), by show S.length ≤ 4; omega, ⟨by show 1 ≤ T.length; omega, by show T.length ≤ 4; omega⟩, hr⟩)
    refine .call (t_amongw _ (by simp) hc (by omega)) fun r1 ⟨g1, g2⟩ => ?_
    have hr1 : 0 ≤ r1.1 ∧ r1.1 ≤ 4 := by simp at g2; omega
    rw [w64_id (x := r1.1 + 1) (by omega)]
    refine .call (t_pick _ g1 (by omega)) fun r2 ⟨g3, g4, g5⟩ => ?_
    refine .call (P := fun o => Cur (k + 2 + (3 - m) * 50 + 40) ⟨o.2.1, o.2.2.1, ⟨o.2.2.2.1⟩⟩ ∧ o.2.2.2.2.length ≤ 10)
      (.iter (fun q (st : Int × Int × List UInt8 × Int × Int × List Int) => st.2.1 = (q : Int) ∧ q ≤ 5 ∧ Cur (k + 2 + (3 - m) * 50 + 10 + (5 - q) * 4) ⟨st.2.2.1, st.2.2.2.1, ⟨st.2.2.2.2.1⟩⟩ ∧ st.2.2.2.2.2.length + q ≤ 5) (n := r2.1.toNat) ⟨by show r2.1 = _; omega, by omega, g3.mono (by omega), by show 0 + _ ≤ 5; omega⟩ ?_) fun o ho => ?_
    · rintro q ⟨a', b', d1, d2, d3, K⟩ ⟨hb', hq, hc', hK⟩
      dsimp only at hb' hc' hK
      subst hb'
      unfold s_l1Cur_depot_L1
      dsimp only
      refine .iteP (fun hlt2 => .chk (by rw [List.length_singleton]; omega) ?_) (fun _ => .dn ⟨hc'.mono (by omega), by show K.length ≤ 10; omega⟩)
      refine .call (t_pick _ hc' (by omega)) fun r3 ⟨g6, _, _⟩ => .nx ⟨q - 1, by omega, by show w64 _ = _; rw [w64_id (by omega)]; omega, by omega, g6.mono (by omega), by simp; omega⟩
    · obtain ⟨p1, p2⟩ := ho
      refine .chk (by rw [List.length_singleton]; omega) (.chk (by rw [List.length_singleton]; omega) (.nx ⟨m - 1, by omega, by show w64 _ = _; rw [w64_id (by omega)]; omega, by omega, p1.mono (by omega), by simp; omega, by simp; omega, by simp; omega, fun r' hr' => ?_⟩))
      rcases List.mem_append.1 hr' with hr' | hr'
      · exact hr r' hr'
      · rw [List.mem_singleton.1 hr']; exact p2
  · obtain ⟨c1, c2, c3, S, T⟩ := o
    obtain ⟨q1, q2, ⟨q3, q4⟩, q5⟩ := ho
    dsimp only at q1 q2 q3 q4 q5 ⊢
    refine .call (P := fun o => Cur (k + 900) ⟨o.1, o.2.1, ⟨o.2.2.1⟩⟩ ∧ DS o.2.2.2.1 o.2.2.2.2) (.call (t_pick 40 q1 (by omega)) fun r4 ⟨g1, _, _⟩ => ?_) fun o ho => .ok ⟨ho.1.mono (by omega), ho.2⟩
    refine .ite (fun _ => ?_) (fun _ => .ite (fun _ => ?_) (fun _ => ?_))
    · refine .call (t_amongw _ (by simp) g1 (by omega)) fun r6 ⟨g2, _⟩ => .chk (by rw [List.length_singleton]; omega) (.ok ⟨g2.mono (by omega), by show (S ++ _).length ≤ 10; simp; omega, by show T.length ≤ 10; omega, fun r hr => by have := q5 r hr; omega⟩)
    · obtain ⟨e, he⟩ := get_ex (l := T) (i := 0) (by omega)
      have hel := q5 e (List.mem_of_getElem? he)
      rw [idx0, he, Option.bind_some]
      refine .call (t_amongw _ (by simp) g1 (by omega)) fun r6 ⟨g2, _⟩ => .chk (by rw [List.length_singleton]; omega) (.ok ⟨g2.mono (by omega), by show S.length ≤ 10; omega, by show (T.set _ _).length ≤ 10; rw [List.length_set]; omega, fun r hr => ?_⟩)
      rcases List.mem_or_eq_of_mem_set hr with hr | hr
      · have := q5 r hr; omega
      · rw [hr]; simp; omega
    · exact .ok ⟨g1.mono (by omega), by show S.length ≤ 10; omega, by show T.length ≤ 10; omega, fun r hr => by have := q5 r hr; omega⟩
theorem t_vehicle {k : Nat} {c : l1Cur} (h : Cur k c) (hk : k ≤ 2000000) {d : Depot} (hb : DB d.Sizes d.Tracks) : Tot (s_l1Cur_vehicleOf c d) fun r => Cur (k + 10) r.2 := by
  unfold s_l1Cur_vehicleOf
  refine .call (P := fun o => o.length ≤ 100000) (.iter (fun m (st : Int × List Int) => ∃ i : Nat, m + i = d.Tracks.length ∧ st.1 = (i : Int) ∧ st.2.length ≤ i * 100) (n := d.Tracks.length) ⟨0, by omega, rfl, by simp⟩ ?_) fun v hv => ?_
  · rintro m ⟨w, a⟩ ⟨i, hm, hw, ha⟩
    dsimp only at hw ha
    subst hw
    have := hb.2.1
    unfold s_l1Cur_vehicleOf_L1
    dsimp only
    refine .iteP (fun hlt => ?_) (fun hge => .dn (by show a.length ≤ 100000; omega))
    obtain ⟨r, hr⟩ := get_ex (l := d.Tracks) (i := i) (by omega)
    have hrl := hb.2.2 r (List.mem_of_getElem? hr)
    refine .eq (ixs hr) (.chk (by omega) (.nx ⟨m - 1, by omega, i + 1, by omega, w64_succ (by omega), by simp; omega⟩))
  · refine .call (P := fun o => Cur (k + 4) ⟨o.2.1, o.2.2.1, ⟨o.2.2.2⟩⟩ ∧ (o.1 = false → 0 < v.length)) (.ite (fun _ => .ok ⟨h.mono (by omega), fun h => (by cases h)⟩) (fun hv0 => .call (t_one _ h (by omega)) fun r h1 => .ok ⟨h1.mono (by omega), fun _ => by simp at hv0; exact List.length_pos_iff.2 hv0⟩)) fun o ⟨h1, h2⟩ => ?_
    obtain ⟨b, c1, c2, c3⟩ := o
    dsimp only at h1 h2 ⊢
    refine .ite (fun _ => .call (t_among _ (by simp) h1 (by omega)) fun r ⟨h3, _⟩ => .ok (h3.mono (by omega))) (fun hb0 => ?_)
    refine .call (t_pick _ h1 (by omega)) fun r ⟨h3, h4, h5⟩ => .idx h4 (by have := h2 hb0; omega) fun x _ => .ok (h3.mono (by omega))
theorem t_moves {k : Nat} {c : l1Cur} (h : Cur k c) (hk : k ≤ 1000000) {d : Depot} (hb : DB d.Sizes d.Tracks) : Tot (s_l1Cur_moves15 c d) fun r => Cur (k + 1000) r.2 ∧ r.1.length ≤ 100 := by
  unfold s_l1Cur_moves15
  refine .call (t_pick 8 h (by omega)) fun r ⟨h1, h2, h3⟩ => ?_
  refine .call (P := fun o => Cur (k + 300) ⟨o.1, o.2.1, ⟨o.2.2.1⟩⟩ ∧ o.2.2.2.length ≤ 10)
    (.iter (fun m (st : Int × List UInt8 × Int × Int × List Move × List Int) => st.1 = (m : Int) ∧ m ≤ 8 ∧ Cur (k + 2 + (8 - m) * 20) ⟨st.2.1, st.2.2.1, ⟨st.2.2.2.1⟩⟩ ∧ st.2.2.2.2.1.length + m ≤ 8 ∧ st.2.2.2.2.2.length + m ≤ 8) (n := r.1.toNat) ⟨by show r.1 = _; omega, by omega, h1.mono (by omega), by show 0 + _ ≤ 8; omega, by show 0 + _ ≤ 8; omega⟩ ?_) fun o ho => ?_
  · rintro m ⟨w, c1, c2, c3, M, K⟩ ⟨hw, hm, hc, hM, hK⟩
    dsimp only at hw hc hM hK
    subst hw
    unfold s_l1Cur_moves15_L1
    dsimp only
    refine .iteP (fun hlt => ?_) (fun _ => .dn ⟨hc.mono (by omega), by show M.length ≤ 10; omega⟩)
    refine .call (P := fun o => Cur (k + 2 + (8 - m) * 20 + 18) ⟨o.1, o.2.1, ⟨o.2.2.1⟩⟩ ∧ o.2.2.2.1.length ≤ M.length + 1 ∧ o.2.2.2.2.length ≤ K.length + 1) ?_ fun o ho => .nx ⟨m - 1, by omega, by show w64 _ = _; rw [w64_id (by omega)]; omega, by omega, ho.1.mono (by omega), by have := ho.2.1; show o.2.2.2.1.length + (m - 1) ≤ 8; omega, by have := ho.2.2; show o.2.2.2.2.length + (m - 1) ≤ 8; omega⟩
    refine .call (P := fun o => Cur (k + 2 + (8 - m) * 20 + 2) ⟨o.2.1, o.2.2.1, ⟨o.2.2.2⟩⟩ ∧ (o.1 = true → 0 < K.length)) (.iteP (fun hk0 => .call (t_one _ hc (by omega)) fun r h1 => .ok ⟨h1.mono (by omega), fun _ => by omega⟩) (fun _ => .ok ⟨hc.mono (by omega), fun h => (by cases h)⟩)) fun o ⟨g1, g2⟩ => ?_
    obtain ⟨b, d1, d2, d3⟩ := o
    dsimp only at g1 g2 ⊢
    refine .ite (fun hb1 => ?_) (fun _ => ?_)
    · have hKp := g2 hb1
      refine .call (t_pick _ g1 (by omega)) fun r2 ⟨h4, h5, h6⟩ => .idx h5 (by omega) fun x hx => ?_
      have hlt2 := get_lt hx
      rw [w64_id (x := r2.1 + 1) (by omega)]
      refine .chk (by rw [List.length_singleton]; omega) (.chk ⟨by omega, by omega, by omega⟩ (.chk (by simp; omega) (.chk ⟨by omega, by omega⟩ (.chk (by simp; omega) (.ok ⟨h4.mono (by omega), by simp, by simp; omega⟩)))))
    · refine .call (t_one _ g1 (by omega)) fun r3 h4 => .ite (fun _ => ?_) (fun _ => ?_)
      · refine .call (t_vehicle h4 (by omega) hb) fun r4 h5 => .chk (by rw [List.length_singleton]; omega) (.ok ⟨h5.mono (by omega), by simp, by show K.length ≤ K.length + 1; omega⟩)
      · refine .chk (by rw [List.length_singleton]; omega) (.chk (by rw [List.length_singleton]; omega) (.ok ⟨h4.mono (by omega), by simp, by simp⟩))
  · obtain ⟨c1, c2, c3, M⟩ := o
    obtain ⟨q1, q2⟩ := ho
    dsimp only at q1 q2 ⊢
    refine .call (P := fun o => Cur (k + 900) ⟨o.1, o.2.1, ⟨o.2.2.1⟩⟩ ∧ o.2.2.2.length ≤ 100) (.call (t_one _ q1 (by omega)) fun r5 h5 => .ite (fun _ => ?_) (fun _ => .ok ⟨h5.mono (by omega), by show M.length ≤ 100; omega⟩)) fun o ho => .ok ⟨ho.1.mono (by omega), ho.2⟩
    refine .call (P := fun o => Cur (k + 900) ⟨o.1, o.2.1, ⟨o.2.2.1⟩⟩ ∧ o.2.2.2.length ≤ 100) (.iter (fun m (st : List UInt8 × Int × Int × List Move) => m + st.2.2.2.length = 20 ∧ Cur (k + 302 + st.2.2.2.length * 4) ⟨st.1, st.2.1, ⟨st.2.2.1⟩⟩) (n := 20 - M.length) ⟨by show _ + M.length = 20; omega, h5.mono (by show _ ≤ k + 302 + M.length * 4; omega)⟩ ?_) fun o ho => .ok ho
    rintro m ⟨d1, d2, d3, N⟩ ⟨hm, hc⟩
    dsimp only at hm hc
    unfold s_l1Cur_moves15_L2
    dsimp only
    refine .call (t_pick 2 hc (by omega)) fun r6 ⟨g1, g2, g3⟩ => ?_
    rw [w64_id (x := 12 + r6.1) (by omega)]
    refine .iteP (fun hlt => .chk (by omega) (.chk (by rw [List.length_singleton]; omega) (.nx ⟨m - 1, by omega, by simp; omega, g1.mono (by simp; omega)⟩))) (fun _ => .dn ⟨g1.mono (by omega), by show N.length ≤ 100; omega⟩)
theorem drawAs_ok (code : List UInt8) : Tot (s_DrawAssignTracks code) fun r => DB r.1.Sizes r.1.Tracks ∧ r.2.length ≤ 100 := by
  unfold s_DrawAssignTracks
  refine .call (t_depot (cur0 code) (by omega)) fun r ⟨h1, h2⟩ => .call (t_moves h1 (by omega) h2.db) fun r2 ⟨h3, h4⟩ => .ok ⟨h2.db, h4⟩
theorem drawSh_ok (code : List UInt8) : Tot (s_DrawShuntingMoves code) fun r => DB r.1.Sizes r.1.Tracks := by
  unfold s_DrawShuntingMoves s_DrawTakeVehicle
  refine .call (P := fun r => DB r.1.Sizes r.1.Tracks) (.call (t_depot (cur0 code) (by omega)) fun r ⟨h1, h2⟩ => .call (t_vehicle h1 (by omega) h2.db) fun r2 h3 => .ok h2.db) fun r h => .ok h
theorem t_put {l : List Int} (hl : l.length ≤ 10000) (n : Int) : Tot (s_l1Put_m l n) fun r => r.length ≤ l.length + 1 := by
  unfold s_l1Put_m
  refine .call (P := fun v => 0 ≤ v ∧ v ≤ (l.length : Int)) (.iter (fun m (v : Int) => ∃ i : Nat, m + i = l.length ∧ v = (i : Int)) (n := l.length) ⟨0, by omega, rfl⟩ ?_) fun v ⟨h1, h2⟩ => ?_
  · rintro m v ⟨i, hm, rfl⟩
    unfold s_l1Put_m_L1
    dsimp only
    refine .call (P := fun b => b = true → i < l.length) (.iteP (fun hlt => .idx (by omega) (by omega) fun x hx => .ok fun _ => by omega) (fun _ => .ok fun h => (by cases h))) fun b hb => .ite (fun hb1 => .nx ⟨m - 1, by have := hb hb1; omega, i + 1, by have := hb hb1; omega, w64_succ (by omega)⟩) (fun _ => .dn ⟨by omega, by omega⟩)
  · refine .call (P := fun _ => True) (.iteP (fun hlt => .idx h1 (by omega) fun x hx => .ok trivial) (fun _ => .ok trivial)) fun b _ => .ite (fun _ => .ok (by omega)) (fun _ => ?_)
    refine .chk ⟨by omega, by omega, by omega⟩ (.chk (by simp; omega) (.chk (by simp; omega) (.chk ⟨by omega, by omega⟩ (.chk (by simp; omega) (.ok (by simp; omega))))))
theorem drawDo_ok (code : List UInt8) : Tot (s_DrawDepartureOrder code) fun r => DB r.1.Sizes r.1.Tracks ∧ r.2.length ≤ 1000 := by
  unfold s_DrawDepartureOrder
  refine .call (t_depot (cur0 code) (by omega)) fun r ⟨h1, h2⟩ => ?_
  have h20 := h2.2.1
  refine .call (P := fun o => Cur 900000 ⟨o.1, o.2.1, ⟨o.2.2.1⟩⟩ ∧ o.2.2.2.length ≤ 200) (.iter (fun m (st : Int × List UInt8 × Int × Int × List Int) => ∃ i : Nat, m + i = r.1.Tracks.length ∧ st.1 = (i : Int) ∧ Cur (1000 + i * 100) ⟨st.2.1, st.2.2.1, ⟨st.2.2.2.1⟩⟩ ∧ st.2.2.2.2.length ≤ i * 20) (n := r.1.Tracks.length) ⟨0, by omega, rfl, h1.mono (by omega), by show 0 ≤ _; omega⟩ ?_) fun o ho => ?_
  · rintro m ⟨w, c1, c2, c3, a⟩ ⟨i, hm, hw, hc, ha⟩
    dsimp only at hw hc ha
    subst hw
    unfold s_DrawDepartureOrder_L2
    dsimp only
    refine .iteP (fun hlt => ?_) (fun hge => .dn ⟨hc.mono (by omega), by show a.length ≤ 200; omega⟩)
    obtain ⟨e, he⟩ := get_ex (l := r.1.Tracks) (i := i) (by omega)
    have hel := h2.2.2 e (List.mem_of_getElem? he)
    rw [ixs he, Option.bind_some, w64_id (x := (e.length : Int) - 1) (by omega)]
    refine .call (P := fun o => Cur (1000 + i * 100 + 90) ⟨o.1, o.2.1, ⟨o.2.2.1⟩⟩ ∧ o.2.2.2.length ≤ a.length + 20) (.call (P := fun o => Cur (1000 + i * 100 + 90) ⟨o.1, o.2.1, ⟨o.2.2.1⟩⟩ ∧ o.2.2.2.length ≤ a.length + 20) ?_ fun o ho => .ok ho) fun o ho => .nx ⟨m - 1, by omega, i + 1, by omega, w64_succ (by omega), ho.1.mono (by omega), by have := ho.2; show o.2.2.2.length ≤ _; omega⟩
    refine .iter (fun q (st : Int × List UInt8 × Int × Int × List Int) => st.1 = (q : Int) - 1 ∧ q ≤ e.length ∧ Cur (1000 + i * 100 + (20 - q) * 4) ⟨st.2.1, st.2.2.1, ⟨st.2.2.2.1⟩⟩ ∧ st.2.2.2.2.length + q ≤ a.length + 20) (n := e.length) ⟨rfl, Nat.le_refl _, hc.mono (by omega), by show a.length + _ ≤ _; omega⟩ ?_
    rintro q ⟨w, d1, d2, d3, b⟩ ⟨hw, hq, hd, hb⟩
    dsimp only at hw hd hb
    subst hw
    unfold s_DrawDepartureOrder_L1
    dsimp only
    refine .iteP (fun hlt2 => ?_) (fun hge => .dn ⟨hd.mono (by omega), by show b.length ≤ _; omega⟩)
    refine .call (t_one _ hd (by omega)) fun r1 h3 => .ite (fun _ => .dn ⟨h3.mono (by omega), by show b.length ≤ _; omega⟩) (fun _ => .eq (ixs he) (.idx (by omega) (by omega) fun x _ => .call (t_put (by omega) x) fun r2 h4 => .nx ⟨q - 1, by omega, by show w64 _ = _; rw [w64_id (by omega)]; omega, by omega, h3.mono (by omega), by show r2.length + _ ≤ _; omega⟩))
  · obtain ⟨c1, c2, c3, a⟩ := o
    obtain ⟨q1, q2⟩ := ho
    dsimp only at q1 q2 ⊢
    refine .call (P := fun o => o.length ≤ 1000) (.call (t_pick 20 q1 (by omega)) fun r3 ⟨g1, _, _⟩ => .ite (fun _ => ?_) (fun _ => .ite (fun _ => .chk (by rw [List.length_singleton]; omega) (.ok (by simp; omega))) (fun _ => .ok (by omega)))) fun o ho => .ok ⟨h2.db, ho⟩
    refine .call (t_vehicle g1 (by omega) h2.db) fun r4 _ => .call (t_put (by omega) r4.1) fun r5 h5 => .ok (by omega)
theorem drawRu_ok (code : List UInt8) : Tot (s_DrawRunMoves code) fun r => DB r.1.Sizes r.1.Tracks ∧ r.2.1.length ≤ 100 ∧ r.2.2.length ≤ 1000 := by
  unfold s_DrawRunMoves
  refine .call (t_depot (cur0 code) (by omega)) fun r ⟨h1, h2⟩ => .call (t_moves h1 (by omega) h2.db) fun r1 ⟨h3, h4⟩ => ?_
  obtain ⟨r2, _, e2, e3, _⟩ := assign_both h2.db (l := r1.1) (by omega)
  refine .eq e2 (.call (P := fun o => o.length ≤ 1000) (.call (t_one _ h3 (by omega)) fun r3 h5 => .ite (fun _ => ?_) (fun _ => .ok (by omega))) fun o ho => .ok ⟨h2.db, h4, ho⟩)
  refine .call (t_pick 6 h5 (by omega)) fun r4 ⟨g1, g2, g3⟩ => .call (P := fun o => o.length ≤ 1000) (.iter (fun m (st : Int × List UInt8 × Int × Int × List Int) => st.1 = (m : Int) ∧ m ≤ 6 ∧ Cur (10000 + (6 - m) * 4) ⟨st.2.1, st.2.2.1, ⟨st.2.2.2.1⟩⟩ ∧ st.2.2.2.2.length + m ≤ 6) (n := r4.1.toNat) ⟨by show r4.1 = _; omega, by omega, g1.mono (by omega), by show 0 + _ ≤ 6; omega⟩ ?_) fun o ho => .ok ho
  rintro m ⟨w, c1, c2, c3, a⟩ ⟨hw, hm, hc, ha⟩
  dsimp only at hw hc ha
  subst hw
  unfold s_DrawRunMoves_L1
  dsimp only
  refine .iteP (fun hlt => .call (t_pick 3 hc (by omega)) fun r5 ⟨k1, _, _⟩ => .chk (by rw [List.length_singleton]; omega) (.nx ⟨m - 1, by omega, by show w64 _ = _; rw [w64_id (by omega)]; omega, by omega, k1.mono (by omega), by simp; omega⟩)) (fun _ => .dn (by show a.length ≤ 1000; omega))
/-! FnTracks: the law. -/
theorem itakeV_eq {d : Depot} (hD : DI d.Sizes d.Tracks) {v : Int} {T' : List (List Int)} (h : tk d.Tracks v = some T') : i_TakeVehicle d v = some (⟨d.Sizes, T'⟩, true) := by
  unfold i_TakeVehicle
  rw [ivalid_eq hD.db, Option.bind_some, icopy_eq hD.db]
  have hd : (!(@decide (DI d.Sizes d.Tracks) (Classical.propDecidable _))) = false := by simp [hD]
  simp only [hd, Bool.false_eq_true, if_false, Option.bind_some]
  rw [itake_eq (d := ⟨d.Sizes, d.Tracks⟩) hD.db, h]
  rfl
theorem rDepots_refl {d : Depot} (hb : DB d.Sizes d.Tracks) : v_rDepots d d = some true := by
  unfold v_rDepots
  rw [rInts_refl _ (by have := hb.1; omega), rTable_refl _ (by have := hb.2.1; omega) (fun r hr => by have := hb.2.2 r hr; omega)]
  rfl
theorem tracks_true (code : List UInt8) : v_FnTracks code = some true := by
  unfold v_FnTracks
  refine Tot.val (.eq (rBig_eq code) (.iteP (fun _ => .ok rfl) (fun _ => ?_)))
  refine .call (drawAs_ok code) fun ⟨d, l⟩ ⟨hb, hl⟩ => ?_
  dsimp only at hb hl ⊢
  obtain ⟨⟨r, f, o⟩, a1, a2, a3, a4⟩ := assign_both hb (l := l) (by omega)
  dsimp only at a3 a4
  rw [a1, Option.bind_some, a2, Option.bind_some]
  dsimp only
  rw [rInts_refl r (by omega)]
  simp only [beq_self_eq_true, Bool.not_true, Bool.false_eq_true, if_false, Option.bind_some]
  have hmid : Tot (if f = true then
      (i_RunMoves d l r).bind fun r5 =>
      (if (!r5.2.2) = true then some true else some (r5.2.1 != (l.length : Int))).bind fun (v1 : Bool) =>
      if v1 = true then some (Fl.ret false) else some (Fl.go ())
    else some (Fl.go ()) : Option (Fl Bool Unit)) fun v => v = .go () := by
    cases f with
    | false => exact .ok rfl
    | true =>
      obtain ⟨b1, b2, b3⟩ := a4 rfl
      obtain ⟨w, c1, _, _, c4⟩ := run_both hb (l := l) (by omega) (tr := r) a3
      rw [if_pos rfl, c1, c4 b2 b1, Option.bind_some]
      dsimp only
      rw [b3]
      simp only [Bool.not_true, Bool.false_eq_true, if_false, bne_self_eq_false, Option.bind_some]
      exact .ok rfl
  refine .flb (hmid.mono fun v hv => ⟨fun r h => (by rw [hv] at h; cases h), fun u _ => ?_⟩)
  refine .call (drawSh_ok code) fun ⟨d2, x2⟩ hb2 => ?_
  dsimp only at hb2 ⊢
  obtain ⟨⟨m2, p2, k2⟩, s1, s2, s3, s4, s5⟩ := shunt_both hb2 x2
  dsimp only at s3 s4 s5
  rw [s1, Option.bind_some, s2, Option.bind_some]
  dsimp only
  rw [rInts_refl p2 (by omega)]
  simp only [beq_self_eq_true, bne_self_eq_false, Bool.not_true, Bool.false_eq_true, if_false, Option.bind_some]
  have hmid2 : Tot ((if k2 = true then some (decide ((m2.length : Int) ≤ 20)) else some false).bind fun (v3 : Bool) =>
    if v3 = true then
     (i_RunMoves d2 m2 p2).bind fun r11 =>
     (i_BlockersOf r11.1 x2).bind fun r12 =>
     (if (!r11.2.2) = true then some true else if (r11.2.1 != (m2.length : Int)) = true then some true else some r12.2).bind fun (v4 : Bool) =>
     if v4 = true then some (Fl.ret false) else some (Fl.go ())
    else some (Fl.go ()) : Option (Fl Bool Unit)) fun v => v = .go () := by
    cases k2 with
    | false => exact .ok rfl
    | true =>
      obtain ⟨t1, t2, t3⟩ := s5 rfl
      rw [if_pos rfl, Option.bind_some]
      refine .iteP (fun h20 => ?_) (fun _ => .ok rfl)
      obtain ⟨w, c1, _, _, c4⟩ := run_both hb2 (l := m2) (by omega) (tr := p2) s4
      rw [c1, c4 t1 (by omega), Option.bind_some]
      dsimp only
      rw [iblockers_gone (d := ⟨d2.Sizes, (rn d2.Sizes d2.Tracks m2 p2).2⟩) (rn_ok t1).1 t3, Option.bind_some, t2]
      simp only [Bool.not_true, Bool.false_eq_true, if_false, bne_self_eq_false, Option.bind_some]
      exact .ok rfl
  refine .flb (hmid2.mono fun v hv => ⟨fun r h => (by rw [hv] at h; cases h), fun u _ => ?_⟩)
  refine .call (drawDo_ok code) fun ⟨d3, l3⟩ ⟨hb3, hl3⟩ => ?_
  dsimp only at hb3 hl3 ⊢
  obtain ⟨⟨r3, c3, g3⟩, o1, o2, o3, o4⟩ := order_both hb3 hl3
  dsimp only at o3 o4
  rw [o1, Option.bind_some, o2, Option.bind_some]
  dsimp only
  rw [rInts_refl r3 (by omega)]
  simp only [beq_self_eq_true, Bool.not_true, Bool.false_eq_true, if_false, Option.bind_some]
  have hmid3 : Tot (iter (v_FnTracks_L1 (r3, c3, g3)) ((0 : Int), d3.Sizes, d3.Tracks)) fun v => v = .go () := by
    cases c3 with
    | false =>
      refine .iter (fun m (st : Int × List Int × List (List Int)) => st.1 = 0) (n := 0) rfl ?_
      rintro m ⟨w, S, T⟩ hw
      dsimp only at hw
      subst hw
      unfold v_FnTracks_L1
      dsimp only
      refine .call (P := fun b => b = false) (.iteP (fun _ => .ok rfl) (fun _ => .ok rfl)) fun b hb => ?_
      subst hb
      rw [if_neg (by simp)]
      exact .dn rfl
    | true =>
      obtain ⟨hD, hord⟩ := o4 rfl
      obtain ⟨q1, F, q2, q3⟩ := ord_taken hD hord
      refine .iter (fun m (st : Int × List Int × List (List Int)) => ∃ i : Nat, m + i = r3.length ∧ st.1 = (i : Int) ∧ st.2.1 = d3.Sizes ∧ st.2.2 = F i) (n := r3.length) ⟨0, by omega, rfl, rfl, q2.symm⟩ ?_
      rintro m ⟨w, S, T⟩ ⟨i, hm, hw, hS, hT⟩
      dsimp only at hw hS hT
      subst hw; subst hS; subst hT
      unfold v_FnTracks_L1
      dsimp only
      by_cases hlt : i < r3.length
      · obtain ⟨e, he⟩ := get_ex hlt
        obtain ⟨z1, z2⟩ := q3 i e he
        rw [if_pos (by rw [decide_eq_true_eq]; omega), Option.bind_some, if_pos rfl, ixs he, Option.bind_some, itakeV_eq (d := ⟨d3.Sizes, F i⟩) z2 z1, Option.bind_some]
        simp only [Bool.not_true, Bool.false_eq_true, if_false]
        exact .nx ⟨m - 1, by omega, i + 1, by omega, w64_succ (by omega), rfl, rfl⟩
      · rw [if_neg (by rw [decide_eq_true_eq]; omega), Option.bind_some, if_neg (by simp)]
        exact .dn rfl
  refine .flb (hmid3.mono fun v hv => ⟨fun r h => (by rw [hv] at h; cases h), fun u _ => ?_⟩)
  refine .call (drawRu_ok code) fun ⟨d4, l4, t4⟩ ⟨hb4, hl4, ht4⟩ => ?_
  dsimp only at hb4 hl4 ht4 ⊢
  obtain ⟨w, c1, c2, c5, _⟩ := run_both hb4 (l := l4) (by omega) (tr := t4) ht4
  rw [c1, Option.bind_some, c2, Option.bind_some, rDepots_refl c5]
  simp only [beq_self_eq_true, if_true, Option.bind_some]
  exact .ok rfl
end Go.Proofs.Ytjahononbnbjnaa
