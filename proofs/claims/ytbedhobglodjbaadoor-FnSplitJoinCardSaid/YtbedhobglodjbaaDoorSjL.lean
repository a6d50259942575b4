/- The plain law: what the models compute, no program in sight. -/
import Derived.Test.YtbedhobglodjbaaDoorSjM
import Derived.Test.YtbedhobglodjbaaDoorAbTot
namespace Go.Proofs.YtbedhobglodjbaaDoor
open Go Go.Ab
set_option maxHeartbeats 4000000
set_option linter.unusedVariables false
set_option linter.unusedSimpArgs false
/-! The cursor of the draws: it always answers. -/
def Cur (k : Nat) (c : l1Cur) : Prop := 0 ≤ c.at_ ∧ c.at_ ≤ k
theorem Cur.mono {k k' : Nat} {c : l1Cur} (h : Cur k c) (hk : k ≤ k') : Cur k' c := ⟨h.1, by have := h.2; omega⟩
theorem next_ok {k : Nat} {c : l1Cur} (h : Cur k c) (hk : k ≤ 4000000000) : ∃ r, s_l1Cur_next c = some r ∧ Cur (k + 1) r.2 ∧ 0 ≤ r.1 ∧ r.1 ≤ 255 := by
  obtain ⟨h0, h1⟩ := h
  have hw : w64 (c.at_ + 1) = c.at_ + 1 := w64_id (by omega)
  have hcur : ∀ s, Cur (k + 1) ⟨c.code_, w64 (c.at_ + 1), s⟩ := fun s => by rw [hw]; exact ⟨by show 0 ≤ c.at_ + 1; omega, by show c.at_ + 1 ≤ _; omega⟩
  unfold s_l1Cur_next
  have hv : ∃ v, (if (decide (c.at_ < (c.code_.length : Int))) = true then (idx c.code_ c.at_).bind fun e1 => some (w64 ((e1.toNat : Int))) else some 0) = some v ∧ 0 ≤ v ∧ v ≤ 255 := by
    by_cases hlt : c.at_ < c.code_.length
    · obtain ⟨x, hx, _, _⟩ := idx_lt h0 hlt
      have := x.toNat_lt
      refine ⟨(x.toNat : Int), ?_, by omega, by omega⟩
      simp only [hlt, decide_true, if_true, hx, Option.bind_some]
      rw [w64_id (by omega)]
    · exact ⟨0, by simp [hlt], by omega, by omega⟩
  obtain ⟨v, hv, hv0, hv1⟩ := hv
  rw [hv]
  simp only [Option.bind_some]
  split
  · exact ⟨_, rfl, hcur _, hv0, hv1⟩
  · rw [chk_of (by omega)]
    exact ⟨_, rfl, hcur _, and255 _⟩
theorem pick_ok {k : Nat} {c : l1Cur} (n : Int) (h : Cur k c) (hk : k ≤ 3000000000) : ∃ r, s_l1Cur_pick c n = some r ∧ Cur (k + 2) r.2 ∧ 0 ≤ r.1 ∧ (r.1 < n ∨ r.1 = 0) := by
  unfold s_l1Cur_pick
  by_cases hn : n ≤ 1
  · exact ⟨(0, c), by simp [hn], h.mono (by omega), by simp, .inr rfl⟩
  · obtain ⟨r, hr, hc, h0, h1⟩ := next_ok h (by omega)
    have hn' : decide (n ≤ 1) = false := by simpa using hn
    simp only [hn', Bool.false_eq_true, if_false, hr, Option.bind_some]
    have hne : chk (n ≠ 0) = some () := chk_of (by omega)
    by_cases h2 : 200 < n
    · obtain ⟨r', hr', hc', h0', h1'⟩ := next_ok hc (by omega)
      have e1 : w64 (r.1 * 256) = r.1 * 256 := w64_id (by omega)
      have e2 : w64 (r.1 * 256 + r'.1) = r.1 * 256 + r'.1 := w64_id (by omega)
      have h3 := tmod_rng (a := r.1 * 256 + r'.1) (b := n) (by omega) (by omega)
      simp only [h2, decide_true, if_true, hr', Option.bind_some, hne, e1, e2]
      exact ⟨_, rfl, hc'.mono (by omega), h3.1, .inl h3.2⟩
    · have h2' : decide (200 < n) = false := by simpa using h2
      have h3 := tmod_rng (a := r.1) (b := n) (by omega) (by omega)
      simp only [h2', Bool.false_eq_true, if_false, Option.bind_some, hne]
      exact ⟨_, rfl, hc.mono (by omega), h3.1, .inl h3.2⟩
theorem one_ok {k : Nat} {c : l1Cur} (n : Int) (h : Cur k c) (hk : k ≤ 3000000000) : ∃ r, s_l1Cur_one c n = some r ∧ Cur (k + 2) r.2 := by
  unfold s_l1Cur_one
  obtain ⟨r, hr, hc, _, _⟩ := pick_ok n h hk
  simp only [hr, Option.bind_some]
  exact ⟨_, rfl, hc⟩
theorem of_ok {k : Nat} {c : l1Cur} (l : List ByteArray) (hl : l ≠ []) (h : Cur k c) (hk : k ≤ 3000000000) : ∃ r, s_l1Cur_of c l = some r ∧ Cur (k + 2) r.2 ∧ r.1 ∈ l := by
  unfold s_l1Cur_of
  obtain ⟨r, hr, hc, h0, h1⟩ := pick_ok (l.length : Int) h hk
  have hpos : 0 < l.length := List.length_pos_iff.2 hl
  obtain ⟨x, hx, _, hm⟩ := idx_lt (l := l) h0 (by omega)
  simp only [hr, Option.bind_some, hx]
  exact ⟨_, rfl, hc, hm⟩
theorem cur0 (code : List UInt8) : Cur 0 ⟨code, 0, ⟨0⟩⟩ := ⟨by show (0 : Int) ≤ 0; omega, by show (0 : Int) ≤ _; omega⟩
/-! Texts: parts between bytes, no program in sight. -/
/-- The parts of a text between the occurrences of a byte. -/
def spl1 (c : UInt8) : List UInt8 → List (List UInt8)
  | [] => [[]]
  | x :: r => if x = c then [] :: spl1 c r else match spl1 c r with
    | [] => [[x]]
    | h :: t => (x :: h) :: t
theorem spl1_ne (c : UInt8) : ∀ l, spl1 c l ≠ []
  | [] => by simp [spl1]
  | x :: r => by
    unfold spl1
    split
    · simp
    · split <;> simp
theorem spl1_cons {c x : UInt8} {r : List UInt8} (h : x ≠ c) : ∃ a t, spl1 c r = a :: t ∧ spl1 c (x :: r) = (x :: a) :: t := by
  cases hs : spl1 c r with
  | nil => exact absurd hs (spl1_ne c r)
  | cons a t => exact ⟨a, t, rfl, by rw [spl1, if_neg h, hs]⟩
theorem index1_cons {c x : UInt8} {r : List UInt8} : Lib.index (x :: r) [c] = if x = c then 0 else if Lib.index r [c] = -1 then -1 else Lib.index r [c] + 1 := by
  rw [Lib.index]
  by_cases h : x = c
  · subst h; simp
  · have h1 : ([c] : List UInt8).isPrefixOf (x :: r) = false := by
      simp [List.isPrefixOf, Ne.symm h]
    rw [h1, if_neg h]
    simp only [Bool.false_eq_true, if_false, beq_iff_eq]
theorem splitK_spl1 (c : UInt8) : ∀ (l : List UInt8) (k : Nat), l.count c ≤ k → Lib.splitK [c] 0 k l = spl1 c l
  | [], k, _ => by
    cases k with
    | zero => rfl
    | succ k => rw [Lib.splitK]; simp [Lib.index, spl1]
  | x :: r, k, hk => by
    by_cases h : x = c
    · subst h
      rw [List.count_cons_self] at hk
      cases k with
      | zero => omega
      | succ k =>
        have ih := splitK_spl1 x r k (by omega)
        rw [Lib.splitK, index1_cons, if_pos rfl, spl1, if_pos rfl]
        simpa using ih
    · rw [List.count_cons_of_ne h] at hk
      have ih := splitK_spl1 c r k hk
      obtain ⟨a, t, h1, h2⟩ := spl1_cons (r := r) h
      rw [h2]
      cases k with
      | zero =>
        rw [Lib.splitK] at ih ⊢
        rw [h1] at ih
        cases ih; rfl
      | succ k =>
        rw [Lib.splitK, index1_cons, if_neg h]
        rw [Lib.splitK, h1] at ih
        by_cases hi : Lib.index r [c] = -1
        · rw [if_pos (by rw [hi]; rfl)] at ih
          rw [if_pos hi]
          cases ih
          simp
        · have hge := Lib.index_ge r [c]
          rw [if_neg (by simpa using hi)] at ih
          rw [if_neg hi, if_neg (by simp only [beq_iff_eq]; omega)]
          have e : (Lib.index r [c] + 1).toNat = (Lib.index r [c]).toNat + 1 := by omega
          rw [e]
          simp only [Nat.add_zero, List.length_cons, List.length_nil] at ih ⊢
          cases ih
          simp
theorem count1 (c : UInt8) (s : List UInt8) : Lib.count s [c] = s.count c := Lib.count_one c s
theorem splitB_one {s t : ByteArray} {c : UInt8} (h : t = ⟨#[c]⟩) : (Lib.splitB t 0 (Lib.countB s t) s).map (·.data.toList) = spl1 c s.data.toList := by
  subst h
  rw [Lib.splitB_data]
  exact splitK_spl1 c _ _ (by rw [show Lib.countB s ⟨#[c]⟩ = Lib.count s.data.toList [c] from rfl, count1]; exact Nat.le_refl _)
/-- Put together again. -/
theorem join_spl1 (c : UInt8) : ∀ l, Lib.join (spl1 c l) [c] = l
  | [] => rfl
  | x :: r => by
    have ih := join_spl1 c r
    by_cases h : x = c
    · subst h
      rw [spl1, if_pos rfl]
      cases hs : spl1 x r with
      | nil => exact absurd hs (spl1_ne x r)
      | cons a t =>
        rw [hs] at ih
        rw [Lib.join_cons] at ih ⊢
        simp only [Lib.joinTail, List.map_cons, List.flatten_cons, List.nil_append, List.singleton_append] at ih ⊢
        rw [List.cons_append, ih]
    · obtain ⟨a, t, h1, h2⟩ := spl1_cons (r := r) h
      rw [h1, Lib.join_cons] at ih
      rw [h2, Lib.join_cons, List.cons_append, ih]
theorem spl1_free (c : UInt8) : ∀ l, ∀ p ∈ spl1 c l, c ∉ p
  | [], p, hp => by simp [spl1] at hp; subst hp; simp
  | x :: r, p, hp => by
    have ih := spl1_free c r
    by_cases h : x = c
    · rw [spl1, if_pos h] at hp
      rcases List.mem_cons.1 hp with rfl | hp
      · simp
      · exact ih p hp
    · obtain ⟨a, t, h1, h2⟩ := spl1_cons (r := r) h
      rw [h2] at hp
      rw [h1] at ih
      rcases List.mem_cons.1 hp with rfl | hp
      · simp only [List.mem_cons, not_or]
        exact ⟨Ne.symm h, ih a (List.mem_cons_self ..)⟩
      · exact ih p (List.mem_cons_of_mem _ hp)
theorem spl1_app {c : UInt8} : ∀ {p : List UInt8}, c ∉ p → ∀ l, spl1 c (p ++ c :: l) = p :: spl1 c l
  | [], _, l => by rw [List.nil_append, spl1, if_pos rfl]
  | x :: p, hp, l => by
    simp only [List.mem_cons, not_or] at hp
    have ih := spl1_app hp.2 l
    rw [List.cons_append, spl1, if_neg (Ne.symm hp.1), ih]
theorem spl1_self {c : UInt8} : ∀ {p : List UInt8}, c ∉ p → spl1 c p = [p]
  | [], _ => rfl
  | x :: p, hp => by
    simp only [List.mem_cons, not_or] at hp
    rw [spl1, if_neg (Ne.symm hp.1), spl1_self hp.2]
/-- Taken apart again. -/
theorem spl1_join {c : UInt8} : ∀ {l : List (List UInt8)}, l ≠ [] → (∀ p ∈ l, c ∉ p) → spl1 c (Lib.join l [c]) = l
  | [], h, _ => absurd rfl h
  | [p], _, hp => by rw [Lib.join_one]; exact spl1_self (hp p (List.mem_cons_self ..))
  | p :: q :: r, _, hp => by
    have ih := spl1_join (l := q :: r) (by simp) (fun x hx => hp x (List.mem_cons_of_mem _ hx))
    rw [Lib.join_cons] at ih ⊢
    have e : p ++ Lib.joinTail [c] (q :: r) = p ++ c :: (q ++ Lib.joinTail [c] r) := by simp [Lib.joinTail]
    rw [e, spl1_app (hp p (List.mem_cons_self ..)), ih]
theorem contains1 (c : UInt8) (l : List UInt8) : Lib.contains l [c] = decide (c ∈ l) := by
  rw [Lib.contains]
  congr 1
  apply propext
  induction l with
  | nil => simp [Lib.index]
  | cons x r ih =>
    rw [index1_cons]
    have hge := Lib.index_ge r [c]
    by_cases h : x = c
    · subst h; simp
    · rw [if_neg h]
      simp only [List.mem_cons, Ne.symm h, false_or]
      rw [← ih]
      split <;> omega
/-- Cut at the first occurrence of a byte. -/
theorem cut1_hit {c : UInt8} : ∀ {p : List UInt8}, c ∉ p → ∀ l, Lib.cut (p ++ c :: l) [c] = (p, l, true) := by
  intro p hp l
  have hi : ∀ p : List UInt8, c ∉ p → Lib.index (p ++ c :: l) [c] = p.length := by
    intro p
    induction p with
    | nil => intro _; rw [List.nil_append, index1_cons, if_pos rfl]; rfl
    | cons x p ih =>
      intro hp
      simp only [List.mem_cons, not_or] at hp
      rw [List.cons_append, index1_cons, if_neg (Ne.symm hp.1), ih hp.2]
      simp only [List.length_cons]
      rw [if_neg (by omega)]
      omega
  rw [Lib.cut, hi p hp, if_pos (by omega)]
  have e : (p.length : Int).toNat = p.length := by omega
  rw [e]
  have e2 : p ++ c :: l = (p ++ [c]) ++ l := by simp
  refine Prod.ext ?_ (Prod.ext ?_ rfl)
  · show (p ++ c :: l).take p.length = p
    exact List.take_left' rfl
  · show (p ++ c :: l).drop (p.length + [c].length) = l
    rw [e2]
    exact List.drop_left' (by simp)
theorem cut1_miss {c : UInt8} {l : List UInt8} (h : c ∉ l) : Lib.cut l [c] = (l, [], false) := by
  have := contains1 c l
  rw [Lib.contains] at this
  rw [Lib.cut, if_neg]
  intro h0
  rw [decide_eq_true h0] at this
  exact h (of_decide_eq_true this.symm)
theorem cut1 (c : UInt8) : ∀ l : List UInt8, (c ∉ l ∧ Lib.cut l [c] = (l, [], false)) ∨ ∃ p q, c ∉ p ∧ l = p ++ c :: q ∧ Lib.cut l [c] = (p, q, true) := by
  intro l
  by_cases h : c ∈ l
  · obtain ⟨p, q, rfl, hp⟩ := List.eq_append_cons_of_mem h
    exact .inr ⟨p, q, hp, rfl, cut1_hit hp q⟩
  · exact .inl ⟨h, cut1_miss h⟩
/-! Split and join: the law. -/
theorem t_pick {k : Nat} {c : l1Cur} (n : Int) (h : Cur k c) (hk : k ≤ 3000000000) : Tot (s_l1Cur_pick c n) fun r => Cur (k + 2) r.2 ∧ 0 ≤ r.1 ∧ (r.1 < n ∨ r.1 = 0) := pick_ok n h hk
theorem t_one {k : Nat} {c : l1Cur} (n : Int) (h : Cur k c) (hk : k ≤ 3000000000) : Tot (s_l1Cur_one c n) fun r => Cur (k + 2) r.2 := one_ok n h hk
theorem t_of {k : Nat} {c : l1Cur} (l : List ByteArray) (hl : l ≠ []) (h : Cur k c) (hk : k ≤ 3000000000) : Tot (s_l1Cur_of c l) fun r => Cur (k + 2) r.2 ∧ r.1 ∈ l := of_ok l hl h hk
theorem vBig_eq (code : List UInt8) : v_vBig code = some (decide (65536 < (code.length : Int))) := rfl
theorem all_size {l : List ByteArray} {n : Nat} (h : (l.all fun x => decide (x.size ≤ n)) = true) : ∀ x ∈ l, x.size ≤ n := fun x hx => of_decide_eq_true (List.all_eq_true.1 h x hx)
theorem any1_ok {k : Nat} {c : l1Cur} (h : Cur k c) (hk : k ≤ 3000000000) : Tot (s_l1Cur_any1 c) fun r => Cur (k + 2) r.2 ∧ r.1.size ≤ 10 := by
  unfold s_l1Cur_any1
  refine .call (t_of _ (by simp) h hk) fun r ⟨hc, hr⟩ => .ok ⟨hc, all_size (n := 10) ?_ _ hr⟩
  rfl
theorem bsize (x : ByteArray) : x.data.toList.length = x.size := rfl
theorem one_eq {t : ByteArray} (h : t.size = 1) : ∃ c, t = ⟨#[c]⟩ := by
  obtain ⟨⟨l⟩⟩ := t
  match l, h with
  | [c], _ => exact ⟨c, rfl⟩
  | [], h => simp [ByteArray.size] at h
  | _ :: _ :: _, h => simp [ByteArray.size] at h
def jl (l : List ByteArray) : Nat := (l.map fun x => x.size + 1).sum
def GJ (c : UInt8) (l : List ByteArray) : Prop := (∀ x ∈ l, c ∉ x.data.toList) ∧ jl l ≤ 4001
def bj (c : UInt8) (l : List ByteArray) : ByteArray := ⟨(Lib.join (l.map (·.data.toList)) [c]).toArray⟩
theorem jl_snoc {l : List ByteArray} {i : Nat} {x : ByteArray} (h : l[i]? = some x) : jl (l.take (i + 1)) = jl (l.take i) + (x.size + 1) := by
  unfold jl; rw [take_succ h]; simp
theorem jl_mem : ∀ {l : List ByteArray} {x : ByteArray}, x ∈ l → x.size + 1 ≤ jl l
  | y :: l, x, h => by
    have e : jl (y :: l) = y.size + 1 + jl l := by unfold jl; simp
    rcases List.mem_cons.1 h with rfl | h
    · omega
    · have := jl_mem h; omega
theorem jl_app (a b : List ByteArray) : jl (a ++ b) = jl a + jl b := by unfold jl; simp
theorem jl_take (l : List ByteArray) (i : Nat) : jl (l.take i) ≤ jl l := by
  have := jl_app (l.take i) (l.drop i)
  rw [List.take_append_drop] at this
  omega
theorem jl_tail (c : UInt8) : ∀ l : List ByteArray, (Lib.joinTail [c] (l.map (·.data.toList))).length = jl l
  | [] => rfl
  | x :: l => by
    have ih := jl_tail c l
    unfold Lib.joinTail at ih ⊢
    simp only [List.map_cons, List.flatten_cons, List.length_append, ih, List.length_cons, List.length_nil, bsize]
    unfold jl; simp; omega
theorem jl_join (c : UInt8) {l : List ByteArray} (h : l ≠ []) : (Lib.join (l.map (·.data.toList)) [c]).length + 1 = jl l := by
  cases l with
  | nil => exact absurd rfl h
  | cons x l =>
    rw [List.map_cons, Lib.join_cons, List.length_append, jl_tail, bsize]
    unfold jl; simp; omega
theorem bj_size (c : UInt8) {l : List ByteArray} (h : l ≠ []) : (bj c l).size + 1 = jl l := by
  have := jl_join c h
  unfold bj; simp only [ByteArray.size, List.size_toArray]; exact this
theorem bj_nil (c : UInt8) : bj c [] = str [] := rfl
theorem bj_one (c : UInt8) (x : ByteArray) : bj c [x] = x := by
  unfold bj; simp [Lib.join_one]
theorem bj_snoc (c : UInt8) {l : List ByteArray} (h : l ≠ []) (x : ByteArray) : bj c (l ++ [x]) = (bj c l ++ ⟨#[c]⟩) ++ x := by
  cases l with
  | nil => exact absurd rfl h
  | cons y l =>
    unfold bj
    rw [List.cons_append, List.map_cons, List.map_cons, Lib.join_cons, Lib.join_cons, List.map_append]
    apply ByteArray.ext
    simp [Lib.joinTail]
theorem contains_c {c : UInt8} {x : ByteArray} (h : x.size ≤ 100000) : strings_Contains x ⟨#[c]⟩ = some (decide (c ∈ x.data.toList)) := by
  unfold strings_Contains containsM
  rw [if_pos (by omega)]
  exact congrArg some (contains1 c _)
theorem GJ_snoc {c : UInt8} {l : List ByteArray} {i : Nat} {x : ByteArray} (h : l[i]? = some x) : GJ c (l.take (i + 1)) ↔ GJ c (l.take i) ∧ c ∉ x.data.toList ∧ jl (l.take i) + (x.size + 1) ≤ 4001 := by
  unfold GJ
  rw [jl_snoc h, take_succ h]
  constructor
  · intro ⟨h1, h2⟩
    exact ⟨⟨fun y hy => h1 y (List.mem_append_left _ hy), by omega⟩, h1 x (by simp), h2⟩
  · intro ⟨⟨h1, _⟩, h2, h3⟩
    refine ⟨fun y hy => ?_, h3⟩
    rcases List.mem_append.1 hy with hy | hy
    · exact h1 y hy
    · simp at hy; subst hy; exact h2
theorem GJ_take {c : UInt8} {l : List ByteArray} (h : GJ c l) (i : Nat) : GJ c (l.take i) := ⟨fun y hy => h.1 y (List.mem_of_mem_take hy), by have := jl_take l i; have := h.2; omega⟩
theorem iloop (c : UInt8) (l : List ByteArray) (hl : l.length ≤ 100000) (hs : ∀ x ∈ l, x.size ≤ 100000) :
    Tot (iter (i_JoinStrings_L1 l ⟨#[c]⟩) ((-1 : Int), (0 : Int))) fun r => (GJ c l ∧ r = .go ()) ∨ (¬ GJ c l ∧ r = .ret ((str []), false)) := by
  refine Tot.iter (fun k a => ∃ i : Nat, k + i = l.length ∧ a = (((jl (l.take i) : Int) - 1), (i : Int)) ∧ GJ c (l.take i)) (n := l.length) ⟨0, rfl, rfl, by unfold GJ jl; simp⟩ ?_
  rintro k _ ⟨i, hk, rfl, hG⟩
  have hG2 := hG.2
  unfold i_JoinStrings_L1
  refine .iteP (fun hlt => ?_) (fun hge => ?_)
  · have hlt' : i < l.length := by omega
    obtain ⟨x, hx⟩ := get_ex hlt'
    have hxs := hs x (List.mem_of_getElem? hx)
    have e1 : w64 ((x.size : Int) + 1) = (x.size : Int) + 1 := w64_id (by omega)
    have e2 : w64 ((jl (l.take i) : Int) - 1 + ((x.size : Int) + 1)) = (jl (l.take i) : Int) - 1 + ((x.size : Int) + 1) := w64_id (by omega)
    refine .eq (ixs hx) ?_
    rw [e1, e2]
    have hsn := jl_snoc hx
    refine .call (P := fun b => b = true ↔ ¬ GJ c (l.take (i + 1))) (.iteP (fun h => .ok ?_) (fun h => .eq (contains_c hxs) (.ok ?_))) fun b hb => .ite (fun h => .dn (.inr ⟨fun hg => hb.1 h (GJ_take hg _), rfl⟩)) (fun h => .nx ⟨k - 1, by omega, i + 1, by omega, ?_, ?_⟩)
    · rw [GJ_snoc hx]
      simp only [true_iff]; intro hh; omega
    · rw [GJ_snoc hx]
      simp only [decide_eq_true_eq]
      constructor
      · intro hh hh2; exact hh2.2.1 hh
      · intro hh
        apply Classical.byContradiction
        intro hn
        exact hh ⟨hG, hn, by omega⟩
    · rw [w64_id (by omega)]
      refine Prod.ext ?_ ?_
      · show (_ : Int) = _; omega
      · show (_ : Int) = _; omega
    · apply Classical.byContradiction
      intro hn
      rw [hb.2 hn] at h; cases h
  · have e : i = l.length := by omega
    subst e
    rw [List.take_length] at hG
    exact .dn (.inl ⟨hG, rfl⟩)
theorem ijoin_ok (c : UInt8) (l : List ByteArray) (hne : l ≠ []) (hl : l.length ≤ 100000) (hs : ∀ x ∈ l, x.size ≤ 100000) :
    (GJ c l ∧ i_JoinStrings l ⟨#[c]⟩ = some (bj c l, true)) ∨ (¬ GJ c l ∧ i_JoinStrings l ⟨#[c]⟩ = some (str [], false)) := by
  have hz : ((l.length : Int) == 0) = false := by
    have := List.length_pos_iff.2 hne
    simp; exact hne
  have hone : ((((⟨#[c]⟩ : ByteArray).size : Int)) != 1) = false := rfl
  unfold i_JoinStrings
  simp only [hz, Bool.false_eq_true, if_false, hone, Option.bind_some]
  obtain ⟨r, hr, ⟨hg, rfl⟩ | ⟨hg, rfl⟩⟩ := iloop c l hl hs
  · refine .inl ⟨hg, ?_⟩
    rw [hr]
    have hj := jl_join c hne
    have := hg.2
    have e : strings_Join l ⟨#[c]⟩ = some (bj c l) := by
      unfold strings_Join joinM
      rw [if_pos ⟨by show (Lib.join (l.map (·.data.toList)) [c]).length ≤ _; omega, by omega⟩]
      rfl
    show (strings_Join l ⟨#[c]⟩).bind _ = _
    rw [e]; rfl
  · exact .inr ⟨hg, by rw [hr]; rfl⟩
theorem ijoin_no {l : List ByteArray} {s : ByteArray} (h : l = [] ∨ s.size ≠ 1) : i_JoinStrings l s = some (str [], false) := by
  unfold i_JoinStrings
  rcases h with rfl | h
  · rfl
  · have h1 : ((s.size : Int) != 1) = true := by simp; omega
    by_cases hl : l = []
    · subst hl; rfl
    · have h0 : ((l.length : Int) == 0) = false := by simp; exact hl
      simp only [h0, h1, Bool.false_eq_true, if_false, if_true, Option.bind_some]
theorem stands_ok (s : ByteArray) (b : UInt8) (hs : s.size ≤ 100000) : s_l1Stands s b = some (decide (b ∈ s.data.toList)) := by
  have h : Tot (iter (s_l1Stands_L1 s b) (0 : Int)) fun r => (b ∉ s.data.toList ∧ r = .go ()) ∨ (b ∈ s.data.toList ∧ r = .ret true) := by
    refine Tot.iter (fun k a => ∃ i : Nat, k + i = s.size ∧ a = (i : Int) ∧ b ∉ s.data.toList.take i) (n := s.size) ⟨0, rfl, rfl, by simp⟩ ?_
    rintro k _ ⟨i, hk, rfl, hG⟩
    unfold s_l1Stands_L1
    refine .iteP (fun hlt => ?_) (fun hge => ?_)
    · refine .chk ⟨by omega, hlt⟩ ?_
      have hlt' : i < s.data.toList.length := by rw [bsize]; omega
      obtain ⟨x, hx⟩ := get_ex hlt'
      have ex : s.data.toList.getD (i : Int).toNat 0 = x := by
        rw [List.getD_eq_getElem?_getD, show (i : Int).toNat = i by omega, hx]; rfl
      rw [ex]
      refine .ite (fun h => .dn (.inr ⟨?_, rfl⟩)) (fun h => .nx ⟨k - 1, by omega, i + 1, by omega, w64_succ (by omega), ?_⟩)
      · have : x = b := by
          have h' : (x.toNat : Int) = b.toNat := eq_of_beq h
          exact UInt8.toNat_inj.1 (by omega)
        subst this
        exact List.mem_of_getElem? hx
      · rw [take_succ hx]
        simp only [List.mem_append, List.mem_singleton, not_or]
        refine ⟨hG, ?_⟩
        rintro rfl
        simp at h
    · have e : s.data.toList.take i = s.data.toList := List.take_of_length_le (by rw [bsize]; omega)
      rw [e] at hG
      exact .dn (.inl ⟨hG, rfl⟩)
  unfold s_l1Stands
  obtain ⟨r, hr, ⟨hg, rfl⟩ | ⟨hg, rfl⟩⟩ := h
  · rw [hr, decide_eq_false hg]; rfl
  · rw [hr, decide_eq_true hg]; rfl
theorem sloop (c : UInt8) (l : List ByteArray) (hl : l.length ≤ 100000) (hs : ∀ x ∈ l, x.size ≤ 100000) :
    Tot (iter (s_JoinStrings_L1 l ⟨#[c]⟩) (str [], (0 : Int))) fun r => (GJ c l ∧ r = .go (bj c l)) ∨ (¬ GJ c l ∧ r = .ret ((str []), false)) := by
  refine Tot.iter (fun k a => ∃ i : Nat, k + i = l.length ∧ a = (bj c (l.take i), (i : Int)) ∧ GJ c (l.take i)) (n := l.length) ⟨0, rfl, rfl, by unfold GJ jl; simp⟩ ?_
  rintro k _ ⟨i, hk, rfl, hG⟩
  have hG2 := hG.2
  unfold s_JoinStrings_L1
  refine .iteP (fun hlt => ?_) (fun hge => ?_)
  · have hlt' : i < l.length := by omega
    obtain ⟨x, hx⟩ := get_ex hlt'
    have hxs := hs x (List.mem_of_getElem? hx)
    refine .eq (ixs hx) (.chk (by show (0 : Int) ≤ 0 ∧ (0 : Int) < 1; omega) ?_)
    have ec : (⟨#[c]⟩ : ByteArray).data.toList.getD (0 : Int).toNat 0 = c := rfl
    rw [ec]
    refine .eq (stands_ok x c hxs) ?_
    have hsn := jl_snoc hx
    refine .iteP (fun h => .dn (.inr ⟨fun hg => hg.1 x (List.mem_of_getElem? hx) h, rfl⟩)) (fun hmem => ?_)
    have hsz : (bj c (l.take i)).size ≤ 4001 := by
      by_cases h0 : l.take i = []
      · rw [h0, bj_nil]; decide
      · have := bj_size c h0; omega
    have hap : ∀ a b : ByteArray, (a ++ b).size = a.size + b.size := fun a b => by simp
    have h1 : (⟨#[c]⟩ : ByteArray).size = 1 := rfl
    have hne1 : l.take (i + 1) ≠ [] := by rw [take_succ hx]; simp
    refine .call (P := fun v3 => v3 ++ x = bj c (l.take (i + 1)) ∧ v3.size ≤ 4002) (.iteP (fun h => .chk (by omega) (.ok ?_)) (fun h => .ok ?_)) fun v3 ⟨hv3, hv3s⟩ => .eq (ixs hx) (.chk (by omega) ?_)
    · have h0 : l.take i ≠ [] := by
        intro e
        have := congrArg List.length e
        rw [List.length_take, List.length_nil] at this
        omega
      rw [take_succ hx, bj_snoc c h0]
      exact ⟨rfl, by rw [hap]; omega⟩
    · have : i = 0 := by omega
      subst this
      rw [take_succ hx]
      simp only [List.take_zero, List.nil_append, bj_nil, bj_one]
      exact ⟨by apply ByteArray.ext; simp [str], by decide⟩
    · have hb1 := bj_size c hne1
      rw [hv3]
      refine .iteP (fun h => .dn (.inr ⟨fun hg => ?_, rfl⟩)) (fun h => .nx ⟨k - 1, by omega, i + 1, by omega, ?_, ?_⟩)
      · have := jl_take l (i + 1)
        have := hg.2
        omega
      · rw [w64_succ (by omega)]
      · exact (GJ_snoc hx).2 ⟨hG, hmem, by omega⟩
  · have e : i = l.length := by omega
    subst e
    rw [List.take_length] at hG ⊢
    exact .dn (.inl ⟨hG, rfl⟩)
theorem sjoin_ok (c : UInt8) (l : List ByteArray) (hne : l ≠ []) (hl : l.length ≤ 100000) (hs : ∀ x ∈ l, x.size ≤ 100000) : s_JoinStrings l ⟨#[c]⟩ = i_JoinStrings l ⟨#[c]⟩ := by
  have hz : ((l.length : Int) == 0) = false := by
    simp; exact hne
  have hone : ((((⟨#[c]⟩ : ByteArray).size : Int)) != 1) = false := rfl
  unfold s_JoinStrings
  simp only [hz, Bool.false_eq_true, if_false, hone, Option.bind_some]
  obtain ⟨r, hr, ⟨hg, rfl⟩ | ⟨hg, rfl⟩⟩ := sloop c l hl hs
  · rcases ijoin_ok c l hne hl hs with ⟨_, h⟩ | ⟨h, _⟩
    · rw [hr, h]; rfl
    · exact absurd hg h
  · rcases ijoin_ok c l hne hl hs with ⟨h, _⟩ | ⟨_, h⟩
    · exact absurd h hg
    · rw [hr, h]; rfl
theorem sjoin_no {l : List ByteArray} {s : ByteArray} (h : l = [] ∨ s.size ≠ 1) : s_JoinStrings l s = some (str [], false) := by
  unfold s_JoinStrings
  by_cases hs : s.size = 1
  · rcases h with rfl | h
    · have : ((s.size : Int) != 1) = false := by simp [hs]
      simp only [this, Bool.false_eq_true, if_false, Option.bind_some]
      rfl
    · exact absurd hs h
  · have : ((s.size : Int) != 1) = true := by simp; omega
    simp only [this, if_true, Option.bind_some]
theorem bl_asym : ∀ a b : List UInt8, Op.bytesLess a b = true → Op.bytesLess b a = false
  | [], [], h => by simp [Op.bytesLess] at h
  | [], _ :: _, _ => by simp [Op.bytesLess]
  | _ :: _, [], h => by simp [Op.bytesLess] at h
  | x :: a, y :: b, h => by
    have ih := bl_asym a b
    unfold Op.bytesLess at h ⊢
    by_cases h1 : x < y
    · have h2 : ¬ y < x := fun h3 => by simp only [UInt8.lt_iff_toNat_lt] at h1 h3; omega
      have h3 : y ≠ x := fun e => h2 (e ▸ h1)
      simp [h2, h3]
    · simp [h1] at h
      obtain ⟨rfl, h⟩ := h
      simp [ih h, h1]
theorem dsplit_ok (code : List UInt8) : Tot (s_DrawSplitString code) fun r => r.1.size ≤ 10 := by
  unfold s_DrawSplitString
  refine .call (any1_ok (cur0 code) (by omega)) fun r ⟨hc, hr⟩ => .call (t_of _ (by simp) hc (by omega)) fun r1 ⟨hc1, _⟩ => .ok hr
theorem dless_ok (code : List UInt8) : Tot (s_DrawLessString code) fun _ => True := by
  unfold s_DrawLessString
  refine .call (any1_ok (cur0 code) (by omega)) fun r ⟨hc, hr⟩ => .call (any1_ok hc (by omega)) fun r1 ⟨hc1, _⟩ => .ok trivial
theorem djoin_ok (code : List UInt8) : Tot (s_DrawJoinStrings code) fun r => r.1.length ≤ 100 ∧ ∀ x ∈ r.1, x.size ≤ 5000 := by
  unfold s_DrawJoinStrings
  refine .call (t_pick 4 (cur0 code) (by omega)) fun r ⟨hc, h0, h1⟩ => ?_
  refine .call (P := fun o => Cur 1000 ⟨o.1, o.2.1, ⟨o.2.2.1⟩⟩ ∧ o.2.2.2.length ≤ 10 ∧ ∀ x ∈ o.2.2.2, x.size ≤ 5000) ?_ fun ⟨v4, v5, v6, n1⟩ ⟨hc1, hn, hx⟩ => ?_
  · refine Tot.iter (fun k a => ∃ i : Nat, k + i = 10 ∧ a.1 = (i : Int) ∧ Cur (2 + 2 * i) ⟨a.2.1, a.2.2.1, ⟨a.2.2.2.1⟩⟩ ∧ a.2.2.2.2.length = i ∧ i ≤ 4 ∧ ∀ x ∈ a.2.2.2.2, x.size ≤ 5000) (n := 10) ⟨0, rfl, rfl, hc, rfl, by omega, by simp⟩ ?_
    rintro k ⟨v, v1, v2, v3, n⟩ ⟨i, hk, hv, hc2, hn, hi, hx⟩
    dsimp only at hv hc2 hn hx
    subst hv
    unfold s_DrawJoinStrings_L1
    dsimp only
    refine .iteP (fun hlt => ?_) (fun hge => .dn ⟨hc2.mono (by omega), by show n.length ≤ 10; omega, hx⟩)
    refine .call (any1_ok hc2 (by omega)) fun r1 ⟨hc3, hr1⟩ => .chk (by simp; omega) (.nx ⟨k - 1, by omega, i + 1, by omega, w64_succ (by omega), hc3, by simp; omega, by omega, ?_⟩)
    intro x hxm
    rcases List.mem_append.1 hxm with h | h
    · exact hx x h
    · simp at h; subst h; omega
  · dsimp only at hc1 hn hx ⊢
    refine .call (P := fun o => Cur 2000 ⟨o.1, o.2.1, ⟨o.2.2.1⟩⟩ ∧ o.2.2.2.length ≤ 100 ∧ ∀ x ∈ o.2.2.2, x.size ≤ 5000) (.call (t_one 20 hc1 (by omega)) fun r2 hc2 => .ite (fun _ => .call (t_pick 20 hc2 (by omega)) fun r3 ⟨hc3, a, b⟩ => ?_) (fun _ => .ok ⟨hc2.mono (by omega), by show n1.length ≤ 100; omega, hx⟩)) fun ⟨v7, v8, v9, n2⟩ ⟨hc4, hn2, hx2⟩ => ?_
    · have ew : w64 (3990 + r3.1) = 3990 + r3.1 := w64_id (by omega)
      rw [ew]
      refine .chk (by omega) (.chk (by simp; omega) (.ok ⟨hc3.mono (by omega), by simp; omega, ?_⟩))
      intro x hxm
      rcases List.mem_append.1 hxm with h | h
      · exact hx x h
      · simp at h; subst h; simp only [bytS, ByteArray.size, List.size_toArray, List.length_replicate]; omega
    · exact .call (t_of _ (by simp) hc4 (by omega)) fun r4 _ => .ok ⟨hn2, hx2⟩
theorem join_same (l : List ByteArray) (s : ByteArray) (hl : l.length ≤ 100000) (hs : ∀ x ∈ l, x.size ≤ 100000) : ∃ r, i_JoinStrings l s = some r ∧ s_JoinStrings l s = some r := by
  by_cases h : l = [] ∨ s.size ≠ 1
  · exact ⟨_, ijoin_no h, sjoin_no h⟩
  · have h1 : s.size = 1 := Classical.byContradiction fun e => h (.inr e)
    obtain ⟨c, rfl⟩ := one_eq h1
    have h2 : l ≠ [] := fun e => h (.inl e)
    rw [sjoin_ok c l h2 hl hs]
    rcases ijoin_ok c l h2 hl hs with ⟨_, e⟩ | ⟨_, e⟩ <;> exact ⟨_, e, e⟩
theorem splitjoin_true (code : List UInt8) : v_FnSplitJoin code = some true := by
  unfold v_FnSplitJoin
  refine Tot.val (.eq (vBig_eq code) (.iteP (fun _ => .ok rfl) (fun _ => ?_)))
  refine .call (dsplit_ok code) fun ⟨s, t⟩ hs => ?_
  dsimp only at hs ⊢
  have hsp : (t.size = 1 ∧ ∃ c, t = ⟨#[c]⟩ ∧ i_SplitString s t = some (Lib.splitB t 0 (Lib.countB s t) s, true)) ∨ (t.size ≠ 1 ∧ i_SplitString s t = some ([], false)) := by
    have hbig : decide (4000 < (s.size : Int)) = false := decide_eq_false (by omega)
    by_cases ht : t.size = 1
    · obtain ⟨c, hc⟩ := one_eq ht
      refine .inl ⟨ht, c, hc, ?_⟩
      have h1 : ((t.size : Int) != 1) = false := by simp [ht]
      unfold i_SplitString strings_Split splitM
      simp only [hbig, Bool.false_eq_true, if_false, h1, Option.bind_some]
      rw [if_pos ⟨by omega, by omega⟩]
      rfl
    · refine .inr ⟨ht, ?_⟩
      have h1 : ((t.size : Int) != 1) = true := by simp; omega
      unfold i_SplitString
      simp only [hbig, Bool.false_eq_true, if_false, h1, Option.bind_some, if_true]
  obtain ⟨r2, hr2⟩ : ∃ r, i_SplitString s t = some r := by
    rcases hsp with ⟨_, c, _, h⟩ | ⟨_, h⟩ <;> exact ⟨_, h⟩
  refine .eq hr2 (.call (djoin_ok code) fun ⟨l, sg⟩ ⟨hl, hx⟩ => ?_)
  dsimp only at hl hx ⊢
  obtain ⟨q, q1, q2⟩ := join_same l sg (by omega) (fun x h => by have := hx x h; omega)
  refine .eq q1 (.eq q2 (.call (dless_ok code) fun ⟨a, b⟩ _ => ?_))
  dsimp only
  refine .eq (a := false) ?_ ?_
  · simp only [beq_self_eq_true, Bool.not_true, Bool.false_eq_true, if_false, i_LessString, s_LessString, Option.bind_some]
    by_cases h : Op.bytesLess a.toList b.toList = true
    · simp [h, bl_asym _ _ h]
    · simp [h]
  simp only [Bool.false_eq_true, if_false]
  rcases hsp with ⟨ht, c, hc, h⟩ | ⟨ht, h⟩
  · rw [hr2] at h; cases h
    have h1 : ((t.size : Int) != 1) = false := by simp [ht]
    simp only [h1, Bool.false_eq_true, if_false]
    have hsb := splitB_one (s := s) hc
    obtain ⟨parts, hp⟩ : ∃ p, p = Lib.splitB t 0 (Lib.countB s t) s := ⟨_, rfl⟩
    rw [← hp] at hsb ⊢
    subst hc
    have hne : parts ≠ [] := fun e => by rw [e] at hsb; exact spl1_ne c _ hsb.symm
    have hb : bj c parts = s := by
      unfold bj; rw [hsb, join_spl1]
    have hjl := bj_size c hne
    rw [hb] at hjl
    have hxs : ∀ x ∈ parts, x.size + 1 ≤ jl parts := fun x hx => by
      exact jl_mem hx
    have hle : parts.length ≤ jl parts := by
      unfold jl
      clear hjl hb hne hsb hp hr2 hxs
      induction parts with
      | nil => simp
      | cons x r ih => simp; omega
    have hg : GJ c parts := ⟨fun x hx => spl1_free c s.data.toList _ (by rw [← hsb]; exact List.mem_map_of_mem hx), by omega⟩
    rcases ijoin_ok c parts hne (by omega) (fun x hx => by have := hxs x hx; omega) with ⟨_, e⟩ | ⟨e, _⟩
    · refine .eq e ?_
      simp only [if_true, hb, beq_self_eq_true, Option.bind_some]
      exact .ok rfl
    · exact absurd hg e
  · rw [hr2] at h; cases h
    have h1 : ((t.size : Int) != 1) = true := by simp; omega
    simp only [h1, if_true, Bool.not_false, Option.bind_some]
    exact .ok rfl
end Go.Proofs.YtbedhobglodjbaaDoor
