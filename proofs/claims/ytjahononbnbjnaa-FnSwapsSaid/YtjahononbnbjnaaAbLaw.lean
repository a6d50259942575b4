/- My own layer: a law over a slice of bytes: its contract by a model that says true is the walk that the shell of a proof asks for. -/
import Derived.Test.YtjahononbnbjnaaAbEx5
import Derived.Below
import Derived.DataReads
import GoSem.Claim
namespace Go.Ab
set_option linter.unusedVariables false
set_option linter.unusedSimpArgs false

def bytesOf (zs : List Int) : List UInt8 := zs.map fun z => UInt8.ofNat z.toNat

theorem byte_back {z : Int} (h : (Lit.int .u8 z).wf = true) : ((UInt8.ofNat z.toNat).toNat : Int) = z := by
 unfold Lit.wf at h
 simp only [Bool.and_eq_true, decide_eq_true_eq] at h
 have h1 : IntKind.u8.min = 0 := by decide
 have h2 : IntKind.u8.max = 255 := by decide
 rw [h1, h2] at h
 rw [UInt8.toNat_ofNat']
 omega

theorem re_bytes {F : Nat → Prop} {w : World} : ∀ (zs : List Int), (∀ z ∈ zs, (Lit.int .u8 z).wf = true) → RE F w 1 ((bytesOf zs).map Enc.e) (zs.map fun z => Value.int .u8 z)
 | [], _ => by unfold bytesOf; simp only [List.map_nil]; unfold RE; rfl
 | z :: zs, h => by
  have hz := byte_back (h z (List.mem_cons_self ..))
  have ih := re_bytes (F := F) (w := w) zs (fun y hy => h y (List.mem_cons_of_mem _ hy))
  unfold bytesOf at ih ⊢
  simp only [List.map_cons]
  refine RE.mk (u := [Value.int .u8 z]) rfl ?_ ih
  show RC F w [D.sc (.int .u8 ((UInt8.ofNat z.toNat).toNat : Int))] [Value.int .u8 z]
  rw [hz]
  unfold RC
  refine ⟨_, _, rfl, rfl, by unfold RD; exact ⟨rfl, rfl⟩, by unfold RC; rfl⟩

theorem law_walkJ {P : Program} {J : Inv} {f : Nat} {m : List UInt8 → Option Bool} {new : Bool → List Obj'} {ob : List UInt8 → Bool → List Obj'}
  (h : FnOK P J f (modS [.rd] (fun x : List UInt8 => [Enc.e x]) (fun _ => []) m (fun y => .dat (Enc.e y)) new ob)) (ht : ∀ code, m code = some true)
  (a : Option Addr) (len cap : Nat) (zs : List Int) (w : World) (hJ : J.ok w) (hZ : ∀ b, J.Z b → b < w.heap.size)
  (hrow : (a = none ∧ len = 0 ∧ cap = 0 ∧ zs = []) ∨ ∃ x, a = some x ∧ len ≤ cap ∧ cap ≤ maxLen ∧ zs.length = cap ∧ (∀ i, i < zs.length → w.cell? (x.add i) = some (.int .u8 (zs.getD i 0))) ∧ ∀ n ∈ zs, (Lit.int .u8 n).wf = true) :
  Calls P f #[.slice a len cap] w fun e w' => e = .returned (.bool true) ∧ Go.RowKit.Below w.heap.size w w' := by
 have fin : ∀ (F0 : Nat → Prop) (code : List UInt8), RD F0 w (Enc.e code) (.slice a len cap) → (∀ b, F0 b → b < w.heap.size) → Calls P f #[.slice a len cap] w fun e w' => e = .returned (.bool true) ∧ Go.RowKit.Below w.heap.size w w' := by
  intro F0 code hrd0 hF0
  obtain ⟨F, hFd⟩ : ∃ F : Nat → Prop, F = fun b => F0 b ∨ J.Z b := ⟨_, rfl⟩
  have hrd : RD F w (Enc.e code) (.slice a len cap) := RD.mono (fun b hb => by rw [hFd]; exact .inl hb) (fun _ _ => rfl) hrd0
  have hF : ∀ b, F b → b < w.heap.size := fun b hb => by
   rw [hFd] at hb
   rcases hb with hb | hb
   ·exact hF0 b hb
   ·exact hZ b hb
  have hJF : JOK J F w := ⟨hJ, fun b hb => by rw [hFd]; exact .inr hb⟩
  refine (h.2 [.slice a len cap] w F [Enc.e code] [] (fun _ => kv nilSl) ⟨code, true, rfl, rfl, ht code⟩ ?_ hF hJF ?_).mono ?_
  ·show RVs _ F w [.dat (Enc.e code)] [.slice a len cap]
   unfold RVs
   refine ⟨_, _, rfl, by unfold RV; exact hrd, ?_⟩
   unfold RVs; rfl
  ·exact ⟨fun j x hj => by simp at hj, fun j x hj => by simp at hj, fun i x j y hi => by simp at hi⟩
  ·rintro e w' ⟨v, rfl, r, new', obs', κ', κl, F', ret⟩
   obtain ⟨x, y, h1, h2, h3, rfl, _, _⟩ := ret.post
   rw [ht x] at h3; cases h3
   have hrv := ret.rv
   unfold RV at hrv
   have hv : RD F' w' (.sc (.bool true)) v := hrv
   unfold RD at hv
   refine ⟨by rw [hv.1], ?_⟩
   obtain ⟨w1, w2, w3, w4, w5⟩ := ret.wx
   exact ⟨w1, w2, w3, w4, fun k hk => w5 k ⟨hk, by rintro ⟨j, x, hj, _⟩; simp at hj⟩⟩
 rcases hrow with ⟨rfl, rfl, rfl, rfl⟩ | ⟨x, rfl, hl, hm, hz, hc, hwf⟩
 ·refine fin (fun _ => False) [] ?_ (fun _ hb => hb.elim)
  show RD _ w (.sl 1 []) _
  unfold RD
  exact ⟨none, 0, rfl, Nat.le_refl _, by unfold maxLen; omega, fun _ => rfl, .inl rfl⟩
 ·rcases Nat.eq_zero_or_pos len with hl0 | hlp
  ·subst hl0
   refine fin (fun _ => False) [] ?_ (fun _ hb => hb.elim)
   show RD _ w (.sl 1 []) _
   unfold RD
   exact ⟨some x, cap, rfl, hl, hm, fun h => by (cases h), .inl rfl⟩
  ·obtain ⟨b, off, spot⟩ := x
   have h0 := hc 0 (by omega)
   have hspot : spot = none := by simpa [Addr.add] using World.cell?_spot h0
   subst hspot
   refine fin (fun k => k = b) (bytesOf (zs.take len)) ?_ ?_
   ·show RD _ w (.sl 1 ((bytesOf (zs.take len)).map Enc.e)) _
    have hlen : ((bytesOf (zs.take len)).map (Enc.e (α := UInt8))).length = len := by
     unfold bytesOf
     rw [List.length_map, List.length_map, List.length_take]; omega
    unfold RD
    refine ⟨some ⟨b, off, none⟩, cap, by rw [hlen], by rw [hlen]; exact hl, hm, fun h => by (cases h), .inr ⟨b, off, (zs.take len).map fun z => Value.int .u8 z, rfl, rfl, ?_, ?_, re_bytes _ fun z hz => hwf z (List.mem_of_mem_take hz)⟩⟩
    ·rw [hlen, List.length_map, List.length_take]; omega
    ·intro j u hj
     rw [List.getElem?_map] at hj
     obtain ⟨z, hz1, rfl⟩ := Option.map_eq_some_iff.1 hj
     have hjl : j < len := by
      have := (List.getElem?_eq_some_iff.1 hz1).1
      rw [List.length_take] at this; omega
     rw [List.getElem?_take_of_lt hjl] at hz1
     have hjz : j < zs.length := (List.getElem?_eq_some_iff.1 hz1).1
     have := hc j hjz
     rw [List.getD_eq_getElem?_getD, hz1] at this
     rw [Addr.add_lit] at this
     exact this
   ·rintro k rfl
    have hcell : w.cell? ⟨k, off, none⟩ = some (.int .u8 (zs.getD 0 0)) := by simpa [Addr.add] using h0
    rcases Nat.lt_or_ge k w.heap.size with hlt | hge
    ·exact hlt
    ·exfalso
     have : w.heap[k]? = none := Array.getElem?_eq_none hge
     simp [World.cell?, this] at hcell
theorem law_walk {P : Program} {f : Nat} {m : List UInt8 → Option Bool} {new : Bool → List Obj'} {ob : List UInt8 → Bool → List Obj'}
  (h : FnOK P .none f (modS [.rd] (fun x : List UInt8 => [Enc.e x]) (fun _ => []) m (fun y => .dat (Enc.e y)) new ob)) (ht : ∀ code, m code = some true)
  (a : Option Addr) (len cap : Nat) (zs : List Int) (w : World)
  (hrow : (a = none ∧ len = 0 ∧ cap = 0 ∧ zs = []) ∨ ∃ x, a = some x ∧ len ≤ cap ∧ cap ≤ maxLen ∧ zs.length = cap ∧ (∀ i, i < zs.length → w.cell? (x.add i) = some (.int .u8 (zs.getD i 0))) ∧ ∀ n ∈ zs, (Lit.int .u8 n).wf = true) :
  Calls P f #[.slice a len cap] w fun e w' => e = .returned (.bool true) ∧ Go.RowKit.Below w.heap.size w w' :=
 law_walkJ h ht a len cap zs w trivial (fun _ hb => hb.elim) hrow
end Go.Ab
