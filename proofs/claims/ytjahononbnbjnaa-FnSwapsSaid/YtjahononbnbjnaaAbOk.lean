/- My own layer, third part: what a state stands for, the triple 'Ok', and its rules. -/
import Derived.Test.YtjahononbnbjnaaAbSpec
import Derived.Test.YtjahononbnbjnaaAbOwn
import Derived.Deep.LoopGhost
namespace Go.Ab
set_option linter.unusedVariables false
set_option linter.unusedSimpArgs false

structure Inv where
 Z : Nat → Prop
 ok : World → Prop
 st : ∀ w w' : World, (∀ b, Z b → w'.heap[b]? = w.heap[b]?) → ok w → ok w'
def Inv.none : Inv := ⟨fun _ => False, fun _ => True, fun _ _ _ _ => trivial⟩
structure JOK (J : Inv) (F : Nat → Prop) (w : World) : Prop where
 ok : J.ok w
 fr : ∀ b, J.Z b → F b
theorem JOK.mono {J : Inv} {F F' : Nat → Prop} {w w' : World} (h : JOK J F w) (hF : ∀ b, F b → F' b) (hb : ∀ b, F b → w'.heap[b]? = w.heap[b]?) : JOK J F' w' :=
 ⟨J.st w w' (fun b hz => hb b (h.fr b hz)) h.ok, fun b hz => hF b (h.fr b hz)⟩

structure Cx where
 K : Nat → Prop
 G : Nat → Prop
 B : Nat
 L : Nat
 κ0 : Kap
 J : Inv

def ArrOK (F : Nat → Prop) (w : World) (e : TypeId) (es : Nat) (u : Value) (l : List D) : Prop :=
 ∃ us, Own w e es u l.length us ∧ RE F w es l us ∧ 0 < es

def blk : Value → Option Nat
 | .pointer (some a) => some a.block
 | .map (some b) => some b
 | .slice (some a) _ _ => some a.block
 | _ => none

def isRow (mask : List (Option TypeId)) (n : Nat) (hole : Option (Nat × Nat)) (k j : Nat) : Prop := k < n ∧ (maskAt mask j).isSome = true ∧ hole ≠ some (k, j)

structure TabOK (F : Nat → Prop) (w : World) (e : TypeId) (es : Nat) (mask : List (Option TypeId)) (l : List D) (u : Value) (r : Nat → Nat → Value) (hole : Option (Nat × Nat)) : Prop where
 pos : 0 < es
 mlen : mask.length ≤ es
 cells : ∀ (k : Nat) (d : D), l[k]? = some d → d.cells.length = es
 mem : ∃ us, Own w e es u l.length us ∧ us.length = l.length * es ∧ ∀ (k : Nat) (d : D) (j : Nat) (c : D), l[k]? = some d → d.cells[j]? = some c →
  ∃ x, us[k * es + j]? = some x ∧ one x = true ∧ match maskAt mask j with
   | none => RD F w c x
   | some e' => x = r k j ∧ (hole = some (k, j) ∨ ∃ es' rows, c = .sl es' rows ∧ ArrOK F w e' es' x rows)
 apart : ∀ k j k' j', isRow mask l.length hole k j → isRow mask l.length hole k' j' → (k, j) ≠ (k', j') → ∀ b, blk (r k j) = some b → blk (r k' j') ≠ some b
 outer : ∀ k j, isRow mask l.length hole k j → ∀ b, blk (r k j) = some b → blk u ≠ some b

def BldOK (w : World) (T E : TypeId) (u v : Value) (l : List UInt8) : Prop :=
 ∃ b p, u = .pointer (some ⟨b, 0, none⟩) ∧ w.heap[b]? = some (.cells #[p, v] T (0, 0)) ∧ (p = .pointer none ∨ p = u) ∧ w.ownsRow 0 E 1 v l.length (l.map fun c => Value.int .u8 c.toNat) ∧ blk v ≠ some b

def MR (w : World) : List ((Int × Int) × D) → List MapEntry → Prop
 | [], es => es = []
 | (k, d) :: l, es => ∃ e es', es = e :: es' ∧ e.key = .agg #[.int .i64 k.1, .int .i64 k.2] ∧ RD (fun _ => False) w d e.val ∧ MR w l es'
def MapOK (w : World) (u : Value) (l : List ((Int × Int) × D)) : Prop :=
 ∃ b es clock, u = .map (some b) ∧ w.heap[b]? = some (.map es clock) ∧ MR w l es.toList

def ObjOK (κ : Kap) (F : Nat → Prop) (w : World) (o : Nat) : Obj' → Prop
 | .box T l => ∃ b arr, (κ o).v = .pointer (some ⟨b, 0, none⟩) ∧ w.heap[b]? = some (.cells arr T (0, 0)) ∧ RVc κ F w l arr.toList
 | .arr e es l => ArrOK F w e es (κ o).v l
 | .bld T E l g => BldOK w T E (κ o).v ((κ g).r 0 0) l
 | .mp _ l => MapOK w (κ o).v l
 | .tab e es mask l g hole => TabOK F w e es mask l (κ o).v (κ g).r hole

def Blk (κ : Kap) (o : Nat) (x : Obj') (b : Nat) : Prop :=
 blk (κ o).v = some b ∨ match x with
  | .bld _ _ _ g => blk ((κ g).r 0 0) = some b
  | .tab _ _ mask l g hole => ∃ k j, isRow mask l.length hole k j ∧ blk ((κ g).r k j) = some b
  | _ => False

structure ORel (cx : Cx) (κ : Kap) (F : Nat → Prop) (w : World) (U : Nat → Prop) (σ : Objs) : Prop where
 ok : ∀ o x, σ o = some x → ObjOK κ F w o x
 nb : ∀ o x, σ o = some x → U o ∧ NBo U x
 free : ∀ o x, σ o = some x → ∀ b, Blk κ o x b → ¬ F b ∧ ¬ cx.K b ∧ cx.G b
 apart : ∀ o x o' x', σ o = some x → σ o' = some x' → o ≠ o' → ∀ b, Blk κ o x b → ¬ Blk κ o' x' b
 fG : ∀ b, F b → cx.G b ∧ b < w.heap.size
 kB : ∀ b, cx.K b → b < cx.B
 gB : ∀ b, cx.B ≤ b → cx.G b
 bs : cx.B ≤ w.heap.size
 inv : JOK cx.J F w
 lt : ∀ j, j < cx.L → U j ∧ (κ j).v = (cx.κ0 j).v

def Wy (cx : Cx) (F : Nat → Prop) : World → World → Prop := Wx fun b => F b ∨ cx.K b

structure Aft (cx : Cx) (κ : Kap) (F : Nat → Prop) (w : World) (U : Nat → Prop) (κ' : Kap) (F' : Nat → Prop) (w' : World) (U' : Nat → Prop) (σ' : Objs) : Prop where
 kap : ∀ o, U o → κ' o = κ o
 fr : ∀ b, F b → F' b
 wx : Wy cx F w w'
 us : ∀ o, U o → U' o
 orel : ORel cx κ' F' w' U' σ'

structure EnvR (κ : Kap) (F : Nat → Prop) (w : World) (U : Nat → Prop) (env : List AV) (a : Act) : Prop where
 size : a.tmps.size = env.length
 dfr : a.defers = []
 rv : ∀ t, RV κ F w (env.getD t .und) (a.tmps.getD t undef)
 nb : ∀ t, NB U (env.getD t .und)

structure Rel (cx : Cx) (κ : Kap) (F : Nat → Prop) (st : St) (a : Act) (w : World) : Prop where
 env : EnvR κ F w (· < st.nx) st.env a
 orel : ORel cx κ F w (· < st.nx) st.ob

def Post (cx : Cx) (Q : Exit → St → Prop) (F : Nat → Prop) (w : World) (e : Exit) (a' : Act) (w' : World) : Prop :=
 ∃ κ' F' st', Q e st' ∧ (∀ b, F b → F' b) ∧ Wy cx F w w' ∧ Rel cx κ' F' st' a' w'

def Ok (P : Program) (cx : Cx) (c : Code) (Q : Exit → St → Prop) (st : St) : Prop :=
 ∀ κ F a w, Rel cx κ F st a w → c.wp P (Post cx Q F w) a w

section
variable {P : Program} {cx : Cx} {Q : Exit → St → Prop} {st : St}

theorem Post.lift {e : Exit} {F F0 : Nat → Prop} {w w0 : World} {a' : Act} {w' : World} (hF : ∀ b, F0 b → F b) (hw : Wy cx F0 w0 w) (h : Post cx Q F w e a' w') : Post cx Q F0 w0 e a' w' := by
 obtain ⟨κ', F', st', h1, h2, h3, h4⟩ := h
 exact ⟨κ', F', st', h1, fun b hb => h2 b (hF b hb), hw.trans h3 (fun b hb => hb.imp (hF b) id), h4⟩

theorem Ok.mono {c : Code} {Q' : Exit → St → Prop} (h : Ok P cx c Q st) (hq : ∀ e s, Q e s → Q' e s) : Ok P cx c Q' st :=
 fun κ F a w hr => wp_mono (h κ F a w hr) fun _ _ _ ⟨κ', F', st', h1, h2⟩ => ⟨κ', F', st', hq _ _ h1, h2⟩

theorem Post.here {e : Exit} {κ : Kap} {F : Nat → Prop} {a : Act} {w : World} (hr : Rel cx κ F st a w) (hq : Q e st) : Post cx Q F w e a w :=
 ⟨κ, F, st, hq, fun _ h => h, Wx.refl _ _, hr⟩

theorem Ok_skip (h : Q .normal st) : Ok P cx .skip Q st := fun _ _ _ _ hr => wp_skip (Post.here hr h)
theorem Ok_ret (h : Q .ret st) : Ok P cx .ret Q st := fun _ _ _ _ hr => wp_ret (Post.here hr h)
theorem Ok_exit {id : Nat} (h : Q (.exit id) st) : Ok P cx (.exit id) Q st := fun _ _ _ _ hr => wp_exit (Post.here hr h)

def Then (next : St → Prop) (Q : Exit → St → Prop) : Exit → St → Prop
 | .normal, s => next s
 | e, s => Q e s

theorem Ok_seq {x y : Code} (h : Ok P cx x (Then (Ok P cx y Q) Q) st) : Ok P cx (.seq x y) Q st := by
 intro κ F a w hr
 refine wp_seq (wp_mono (h κ F a w hr) ?_)
 rintro e a' w' ⟨κ', F', st', h1, h2, h3, h4⟩
 cases e with
 | normal => exact wp_mono (h1 κ' F' a' w' h4) fun e a2 w2 hp => Post.lift h2 h3 hp
 | _ => exact ⟨κ', F', st', h1, h2, h3, h4⟩

def InBlock (id : Nat) (Q : Exit → St → Prop) : Exit → St → Prop
 | .exit id', s => if id' = id then Q .normal s else Q (.exit id') s
 | e, s => Q e s

theorem Ok_block {id : Nat} {c : Code} (h : Ok P cx c (InBlock id Q) st) : Ok P cx (.block id c) Q st := by
 intro κ F a w hr
 refine wp_block (wp_mono (h κ F a w hr) ?_)
 rintro e a' w' ⟨κ', F', st', h1, h2, h3, h4⟩
 cases e with
 | exit id' =>
  simp only [InBlock] at h1
  simp only [Exit.inBlock]
  split
  ·rename_i hid
   rw [if_pos hid] at h1
   exact ⟨κ', F', st', h1, h2, h3, h4⟩
  ·rename_i hid
   rw [if_neg hid] at h1
   exact ⟨κ', F', st', h1, h2, h3, h4⟩
 | _ => exact ⟨κ', F', st', h1, h2, h3, h4⟩

theorem RC_scs {F : Nat → Prop} {w : World} : ∀ {l : List Value}, l.all one = true → RC F w (l.map .sc) l
 | [], _ => by simp only [List.map_nil]; unfold RC; rfl
 | u :: l, h => by
  simp only [List.all_cons, Bool.and_eq_true] at h
  simp only [List.map_cons]
  unfold RC
  exact ⟨u, l, rfl, h.1, by unfold RD; exact ⟨rfl, h.1⟩, RC_scs h.2⟩

theorem RC.nz {F : Nat → Prop} {w : World} : ∀ (sh : List (Option Nat)) (l : List D) (us : List Value), RC F w l us → RC F w (nzC sh l) us
 | [], l, us, h => by unfold nzC; exact h
 | x :: sh, [], us, h => by
  have : nzC (x :: sh) [] = [] := by cases x <;> rfl
  rw [this]; exact h
 | x :: sh, d :: l, us, h => by
  have h0 := h
  unfold RC at h
  obtain ⟨u, us', h1, h2, h3, h4⟩ := h
  have ih := RC.nz sh l us' h4
  unfold nzC
  split
  ·rename_i es sh' l' e1 e2
   cases e1; cases e2
   unfold RC
   refine ⟨u, us', h1, h2, ?_, ih⟩
   unfold RD at h3 ⊢
   exact ⟨none, 0, h3.1, Nat.le_refl _, by unfold maxLen; omega, fun _ => rfl, .inl rfl⟩
  ·rename_i sh' d' l' _ e1 e2
   cases e1; cases e2
   unfold RC
   exact ⟨u, us', h1, h2, h3, ih⟩
  ·rename_i h5
   exact absurd rfl (h5 _ _ _ _ rfl)
theorem eval_of {κ : Kap} {F : Nat → Prop} {w : World} {U : Nat → Prop} {env : List AV} {a : Act} (h : EnvR κ F w U env a) {x : Operand} : RV κ F w (evalA env x) (a.eval x) := by
 cases x with
 | tmp t => exact h.rv t
 | const v =>
  simp only [evalA, Act.eval]
  cases v
  case agg cs =>
   simp only [constAV]
   split
   ·rename_i h1
    unfold RV RD
    exact ⟨cs.toList, rfl, RC_scs h1⟩
   ·unfold RV; trivial
  all_goals (simp only [constAV]; first | (unfold RV; trivial) | (unfold RV RD; exact ⟨rfl, rfl⟩))
 | global g => simp only [evalA]; unfold RV; trivial
 | func f => simp only [evalA, Act.eval]; unfold RV; exact ⟨[], rfl, by unfold RVs; rfl⟩

theorem Ok_cond {c : Operand} {x y : Code} (b : Bool) (hc : evalA st.env c = .dat (.sc (.bool b))) (ht : b = true → Ok P cx x Q st) (hf : b = false → Ok P cx y Q st) : Ok P cx (.cond c x y) Q st := by
 intro κ F a w hr
 have he := eval_of hr.env (x := c)
 rw [hc] at he
 unfold RV RD at he
 exact wp_cond_split he.1 (fun h => ht h κ F a w hr) (fun h => hf h κ F a w hr)

theorem Ok_loop {c : Code} (I : Nat → St → Prop) (n₀ : Nat) (h₀ : I n₀ st) (round : ∀ n s, I n s → Ok P cx c (Then (fun s' => ∃ n', n' < n ∧ I n' s') Q) s) : Ok P cx (.loop c) Q st := by
 intro κ F a w hr
 refine wp_loop_ghost (fun n a' w' => ∃ κ' F' st', I n st' ∧ (∀ b, F b → F' b) ∧ Wy cx F w w' ∧ Rel cx κ' F' st' a' w') n₀ ⟨κ, F, st, h₀, fun _ h => h, Wx.refl _ _, hr⟩ ?_
 rintro n a1 w1 ⟨κ1, F1, st1, h1, h2, h3, h4⟩
 refine wp_mono (round n st1 h1 κ1 F1 a1 w1 h4) ?_
 rintro e a' w' ⟨κ', F', st', g1, g2, g3, g4⟩
 have g3' : Wy cx F w w' := h3.trans g3 (fun b hb => hb.imp (h2 b) id)
 cases e with
 | normal =>
  obtain ⟨n', hlt, hI⟩ := g1
  exact ⟨n', hlt, κ', F', st', hI, fun b hb => g2 b (h2 b hb), g3', g4⟩
 | _ => exact ⟨κ', F', st', g1, fun b hb => g2 b (h2 b hb), g3', g4⟩

end
end Go.Ab
