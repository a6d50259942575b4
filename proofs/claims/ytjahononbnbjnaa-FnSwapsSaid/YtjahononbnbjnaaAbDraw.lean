/- My own layer, fifteenth part: regions that draw their order: the text's order serves for all. -/
import Derived.Test.YtjahononbnbjnaaAbWeak
import Derived.Still
namespace Go.Ab
set_option linter.unusedVariables false
set_option linter.unusedSimpArgs false

mutual
def AV.names : AV → List Nat
 | .own o | .ref o _ | .eref o _ _ _ | .row o _ _ _ | .rref o _ _ _ _ _ _ | .vw o _ _ _ _ _ _ => [o]
 | .aggv l | .tup l | .fn _ l => namesL l
 | _ => []
def namesL : List AV → List Nat
 | [] => []
 | x :: l => x.names ++ namesL l
end

def calNames (e : Operand → AV) : Callee → List Nat
 | .value c => (e c).names
 | _ => []
def rdset0 (e : Operand → AV) (o : Oper) : List Nat :=
 match o.op with
 | .load _ a => (e a).names
 | .store _ a x => match e a with
  | .eref o _ _ _ => o :: (e x).names
  | y => y.names
 | .buildSlice _ _ parts => namesL (parts.toList.map fun p => e p.2)
 | .indexAddr _ x _ => (e x).names
 | .lookup _ x _ _ => (e x).names
 | .mapUpdate _ x _ _ => (e x).names
 | .convert _ _ x => (e x).names
 | .slice _ x _ _ _ => (e x).names
 | .call { callee, args, .. } => namesL (args.toList.map e) ++ calNames e callee
 | _ => []

def inn (σ : Objs) : List Nat → List Nat
 | [] => []
 | o :: r => (match σ o with
  | some (.box _ l) => ownsL l
  | _ => []) ++ inn σ r
def xset (σ : Objs) (e : Operand → AV) (o : Oper) : List Nat :=
 match o.op with
 | .call { callee := .value _, .. } => inn σ (rdset0 e o)
 | _ => []
def rdset (σ : Objs) (e : Operand → AV) (o : Oper) : List Nat := rdset0 e o ++ xset σ e o
def lends (ls : List Pt) : Bool := Nat.blt 0 (Pt.ns ls)

def isArrT (ty : TypeId → Option TyE) (t : TypeId) : Bool := match ty t with
 | some { desc := .array _ _, .. } => true
 | _ => false

def mutB (ty : TypeId → Option TyE) (Γ : Nat → Option FnSpec) (o : Oper) : Bool :=
 match o.op with
 | .store .. => true
 | .mapUpdate .. => true
 | .slice t _ _ _ _ => (elemOf ty t).isSome || isArrT ty t
 | .buildSlice t _ _ => match elemOf ty t with
  | some (el, _) => hasSl ty el
  | none => false
 | .call { callee := .builtin .append, .. } => true
 | .call { callee := .value (.func f), .. } => match Γ f with
  | some S => lends S.lend
  | none => false
 | .call { callee := .value _, .. } => true
 | _ => false

section
variable {P : Program} {cx : Cx} {κ : Kap} {F : Nat → Prop} {w : World} {U : Nat → Prop} {nm : Nat} {σ σ' : Objs} {ty : TypeId → Option TyE} {Γ : Nat → Option FnSpec}

theorem namesL_append : ∀ (l l' : List AV), namesL (l ++ l') = namesL l ++ namesL l'
 | [], l' => rfl
 | x :: l, l' => by
  simp only [List.cons_append]
  have h1 : namesL (x :: (l ++ l')) = x.names ++ namesL (l ++ l') := by conv => lhs; unfold namesL
  have h2 : namesL (x :: l) = x.names ++ namesL l := by conv => lhs; unfold namesL
  rw [h1, h2, namesL_append l l', List.append_assoc]
theorem names_mem {l : List AV} {x : AV} (hx : x ∈ l) : ∀ n ∈ x.names, n ∈ namesL l := by
 induction l with
 | nil => cases hx
 | cons y l ih =>
  intro n hn
  unfold namesL
  rcases List.mem_cons.1 hx with rfl | hx
  ·exact List.mem_append_left _ hn
  ·exact List.mem_append_right _ (ih hx n hn)

theorem inn_congr : ∀ {l : List Nat}, (∀ n ∈ l, σ' n = σ n) → inn σ' l = inn σ l
 | [], _ => rfl
 | o :: l, h => by
  unfold inn
  rw [h o (List.mem_cons_self ..), inn_congr (l := l) fun n hn => h n (List.mem_cons_of_mem _ hn)]
theorem inn_mem {l : List Nat} {o n : Nat} {cs : List AV} {T : TypeId} (ho : o ∈ l) (hσ : σ o = some (.box T cs)) (hn : n ∈ ownsL cs) : n ∈ inn σ l := by
 induction l with
 | nil => cases ho
 | cons a l ih =>
  unfold inn
  rcases List.mem_cons.1 ho with rfl | ho
  ·rw [hσ]; exact List.mem_append_left _ hn
  ·exact List.mem_append_right _ (ih ho)
theorem rdgo_congr : ∀ {l : List AV}, (∀ n ∈ namesL l, σ' n = σ n) → rdD.go σ' l = rdD.go σ l
 | [], _ => rfl
 | x :: l, h => by
  have ih := rdgo_congr (l := l) (fun n hn => h n (by unfold namesL; exact List.mem_append_right _ hn))
  have hx : ∀ n ∈ x.names, σ' n = σ n := fun n hn => h n (by unfold namesL; exact List.mem_append_left _ hn)
  cases x with
  | dat d => simp only [rdD.go, ih]
  | own o => simp only [rdD.go, ih, slO, hx o (by simp [AV.names])]
  | _ => simp only [rdD.go]

theorem rdD_congr {x : AV} (h : ∀ n ∈ x.names, σ' n = σ n) : rdD σ' x = rdD σ x := by
 cases x with
 | own o => simp only [rdD, slO, h o (by simp [AV.names])]
 | aggv l => simp only [rdD, rdgo_congr (l := l) (fun n hn => h n (by unfold AV.names; exact hn))]
 | _ => rfl

theorem slOf_congr {es : Nat} {x : AV} (h : ∀ n ∈ x.names, σ' n = σ n) : slOf σ' es x = slOf σ es x := by
 cases x with
 | own o => simp only [slOf, h o (by simp [AV.names])]
 | dat d =>
  cases d with
  | sc v =>
   cases v
   case slice a n c => cases a <;> cases n <;> cases c <;> rfl
   all_goals rfl
  | _ => rfl
 | _ => rfl

theorem rdV_congr {x : AV} (h : ∀ n ∈ x.names, σ' n = σ n) : rdV σ' x = rdV σ x := by
 cases x with
 | vw o g k j es lo n => simp only [rdV, tabAt, h o (by simp [AV.names])]
 | _ => exact rdD_congr h
mutual
theorem arg_congr : ∀ (p : Pt) (x : AV), (∀ n ∈ x.names, σ' n = σ n) → argOf σ' p x = argOf σ p x
 | .rd, x, h => by unfold argOf; rw [rdV_congr h]
 | .zr, x, h => by cases x <;> rfl
 | .sl, x, h => by cases x <;> rfl
 | .bx, x, h => by
  cases x with
  | ref o i => cases i <;> simp only [argOf]
  | _ => simp only [argOf]
 | .bo k, x, h => by
  cases x with
  | ref o i => cases i <;> simp only [argOf, h o (by simp [AV.names])]
  | _ => simp only [argOf]
 | .ag l, x, h => by
  cases x with
  | aggv xs =>
   have := args_congr l xs (by unfold AV.names at h; exact h)
   simp only [argOf, this]
  | _ => simp only [argOf]
 | .fn f l, x, h => by
  cases x with
  | fn f' xs =>
   have := args_congr l xs (by unfold AV.names at h; exact h)
   simp only [argOf, this]
  | _ => simp only [argOf]
theorem args_congr : ∀ (ls : List Pt) (xs : List AV), (∀ n ∈ namesL xs, σ' n = σ n) → argsOf σ' ls xs = argsOf σ ls xs
 | [], [], _ => by simp only [argsOf]
 | [], x :: xs, _ => by simp only [argsOf]
 | p :: ls, [], _ => by simp only [argsOf]
 | p :: ls, x :: xs, h => by
  have ih := args_congr ls xs (fun n hn => h n (by unfold namesL; exact List.mem_append_right _ hn))
  have hx := arg_congr p x (fun n hn => h n (by unfold namesL; exact List.mem_append_left _ hn))
  simp only [argsOf, ih, hx]
end
theorem inn_append : ∀ (l l' : List Nat), inn σ (l ++ l') = inn σ l ++ inn σ l'
 | [], l' => rfl
 | o :: l, l' => by
  simp only [List.cons_append]
  have h1 : ∀ r : List Nat, inn σ (o :: r) = (match σ o with
   | some (.box _ l) => ownsL l
   | _ => []) ++ inn σ r := fun r => by conv => lhs; unfold inn
  rw [h1, h1, inn_append l l', List.append_assoc]
mutual
theorem arg_names : ∀ (p : Pt) (x : AV) (d : D) (ns rd : List Nat), argOf σ p x = some (d, ns, rd) → ∀ n ∈ ns, n ∈ x.names ++ inn σ x.names
 | .rd, x, d, ns, rd, h => by
  unfold argOf at h
  split at h
  ·cases h; simp
  ·cases h
 | .zr, x, d, ns, rd, h => by
  cases x with
  | dat d0 =>
   simp only [argOf, Option.some.injEq, Prod.mk.injEq] at h
   obtain ⟨rfl, rfl, rfl⟩ := h
   simp
  | _ => simp [argOf] at h
 | .sl, x, d, ns, rd, h => by
  cases x with
  | own o =>
   simp only [argOf, Option.some.injEq, Prod.mk.injEq] at h
   obtain ⟨rfl, rfl, rfl⟩ := h
   simp [AV.names]
  | _ => simp [argOf] at h
 | .bx, x, d, ns, rd, h => by
  cases x with
  | ref o i =>
   cases i with
   | zero =>
    simp only [argOf, Option.some.injEq, Prod.mk.injEq] at h
    obtain ⟨rfl, rfl, rfl⟩ := h
    simp [AV.names]
   | succ i => simp [argOf] at h
  | _ => simp [argOf] at h
 | .bo k, x, d, ns, rd, h => by
  obtain ⟨o, T, l, rfl, hσ, _, _, rfl, _⟩ := arg_bo h
  intro n hn
  rcases List.mem_cons.1 hn with rfl | hn
  ·exact List.mem_append_left _ (by simp [AV.names])
  ·exact List.mem_append_right _ (inn_mem (by simp [AV.names]) hσ hn)
 | .ag l, x, d, ns, rd, h => by
  cases x with
  | aggv xs =>
   unfold argOf at h
   split at h
   ·rename_i ds ns' rd' h1
    cases h
    unfold AV.names
    exact args_names l xs ds ns rd h1
   ·cases h
  | _ => simp [argOf] at h
 | .fn f l, x, d, ns, rd, h => by
  cases x with
  | fn f' xs =>
   unfold argOf at h
   split at h
   ·rename_i ds ns' rd' h1
    cases hb : Nat.beq f f' with
    | false => rw [hb] at h; cases h
    | true =>
     rw [hb] at h; cases h
     unfold AV.names
     exact args_names l xs ds ns rd h1
   ·cases h
  | _ => simp [argOf] at h
theorem args_names : ∀ (ls : List Pt) (xs : List AV) (ds : List D) (ns rd : List Nat), argsOf σ ls xs = some (ds, ns, rd) → ∀ n ∈ ns, n ∈ namesL xs ++ inn σ (namesL xs)
 | [], [], ds, ns, rd, h => by simp [argsOf] at h; obtain ⟨_, rfl, _⟩ := h; simp
 | [], x :: xs, ds, ns, rd, h => by simp [argsOf] at h
 | p :: ls, [], ds, ns, rd, h => by simp [argsOf] at h
 | p :: ls, x :: xs, ds, ns, rd, h => by
  unfold argsOf at h
  split at h
  ·rename_i d ns1 rd1 ds' ns2 rd2 h1 h2
   cases h
   intro n hn
   unfold namesL
   rw [inn_append]
   rcases List.mem_append.1 hn with hn | hn
   ·rcases List.mem_append.1 (arg_names p x d ns1 rd1 h1 n hn) with hn | hn
    ·exact List.mem_append_left _ (List.mem_append_left _ hn)
    ·exact List.mem_append_right _ (List.mem_append_left _ hn)
   ·rcases List.mem_append.1 (args_names ls xs ds' ns2 rd2 h2 n hn) with hn | hn
    ·exact List.mem_append_left _ (List.mem_append_right _ hn)
    ·exact List.mem_append_right _ (List.mem_append_right _ hn)
  ·cases h
end
theorem args_lends {ls : List Pt} {xs : List AV} {ds : List D} {ns rd : List Nat} (h : argsOf σ ls xs = some (ds, ns, rd)) (hl : lends ls = false) : ns = [] := by
 have h1 := args_n ls xs ds ns rd h
 unfold lends at hl
 have : Pt.ns ls = 0 := by
  cases hz : Pt.ns ls with
  | zero => rfl
  | succ m => rw [hz] at hl; cases hl
 exact List.eq_nil_of_length_eq_zero (by omega)

theorem objsF_congr {f : Nat → Nat} : ∀ {ns : List Nat}, (∀ n ∈ ns, σ' n = σ n) → objsF σ' f ns = objsF σ f ns
 | [], _ => rfl
 | o :: ns, h => by simp only [objsF, h o (List.mem_cons_self ..), objsF_congr (ns := ns) (fun n hn => h n (List.mem_cons_of_mem _ hn))]
theorem objsOf_congr {ns : List Nat} (h : ∀ n ∈ ns, σ' n = σ n) : objsOf σ' ns = objsOf σ ns := objsF_congr h

mutual
theorem rowP_congr : ∀ (p : Pt) (x : AV), (∀ n ∈ x.names, σ' n = σ n) → rowP σ' p x = rowP σ p x
 | .rd, x, h => by
  cases x with
  | vw o g k j es lo n => simp only [rowP, tabAt, h o (by simp [AV.names])]
  | _ => rfl
 | .zr, x, h => by cases x <;> rfl
 | .sl, x, h => by cases x <;> rfl
 | .bx, x, h => by cases x <;> rfl
 | .bo k, x, h => by cases x <;> rfl
 | .ag l, x, h => by
  cases x with
  | aggv xs => simp only [rowP]; exact rowsP_congr l xs fun n hn => h n (by unfold AV.names; exact hn)
  | _ => rfl
 | .fn f l, x, h => by
  cases x with
  | fn f' xs => simp only [rowP]; exact rowsP_congr l xs fun n hn => h n (by unfold AV.names; exact hn)
  | _ => rfl
theorem rowsP_congr : ∀ (ls : List Pt) (xs : List AV), (∀ n ∈ namesL xs, σ' n = σ n) → rowsP σ' ls xs = rowsP σ ls xs
 | [], xs, _ => by unfold rowsP; rfl
 | _ :: _, [], _ => by unfold rowsP; rfl
 | p :: ls, x :: xs, h => by
  unfold rowsP
  rw [rowP_congr p x fun n hn => h n (by unfold namesL; exact List.mem_append_left _ hn), rowsP_congr ls xs fun n hn => h n (by unfold namesL; exact List.mem_append_right _ hn)]
end
theorem call_congr {f : Nat} {xs : List AV} {ats : List TypeId} (h : ∀ n ∈ namesL xs ++ inn σ (namesL xs), σ' n = σ n) : callSpec ty Γ σ' nm f xs ats = callSpec ty Γ σ nm f xs ats := by
 unfold callSpec
 cases Γ f with
 | none => rfl
 | some S =>
  simp only [args_congr S.lend xs fun n hn => h n (List.mem_append_left _ hn), rowsP_congr S.lend xs fun n hn => h n (List.mem_append_left _ hn)]
  cases hargs : argsOf σ S.lend xs with
  | none => rfl
  | some t =>
   obtain ⟨ds, ns, rd⟩ := t
   simp only [Option.map_some]
   have := objsOf_congr (σ := σ) (σ' := σ') (ns := ns) (fun n hn => h n (args_names S.lend xs ds ns rd hargs n hn))
   simp only [this]

theorem tabAt_congr {o g : Nat} (h : σ' o = σ o) : tabAt σ' o g = tabAt σ o g := by unfold tabAt; rw [h]
theorem tabLoad_congr {T : TyE} {o es k j : Nat} (h : σ' o = σ o) : tabLoad σ' T o es k j = tabLoad σ T o es k j := by unfold tabLoad; rw [h]
theorem rowLoad_congr {T : TyE} {o g k j es i c : Nat} (h : σ' o = σ o) : rowLoad σ' T o g k j es i c = rowLoad σ T o g k j es i c := by unfold rowLoad; rw [tabAt_congr h]
theorem rowStore_congr {o g k j es i c : Nat} {ds : List D} (h : σ' o = σ o) : rowStore ty σ' o g k j es i c ds = rowStore ty σ o g k j es i c ds := by unfold rowStore; rw [tabAt_congr h]
theorem rowIndex_congr {E : TyE} {o g k j : Nat} {n : Int} (h : σ' o = σ o) : rowIndex σ' E o g k j n = rowIndex σ E o g k j n := by unfold rowIndex; rw [tabAt_congr h]
theorem rowSlice_congr {E : TyE} {o g k j : Nat} {l h' : Int} (h : σ' o = σ o) : rowSlice σ' E o g k j l h' = rowSlice σ E o g k j l h' := by unfold rowSlice; rw [tabAt_congr h]
theorem rowLen_congr {o g k j : Nat} (h : σ' o = σ o) : rowLen σ' o g k j = rowLen σ o g k j := by unfold rowLen; rw [tabAt_congr h]
theorem tabPut_congr {o g : Nat} {mask : List (Option TypeId)} {hole : Option (Nat × Nat)} {d : D} : ∀ {cs : List AV} {j : Nat}, (∀ n ∈ namesL cs, σ' n = σ n) → tabPut ty σ' o g mask hole d j cs = tabPut ty σ o g mask hole d j cs
 | [], j, _ => rfl
 | x :: cs, j, h => by
  have ih := tabPut_congr (o := o) (g := g) (mask := mask) (hole := hole) (d := d) (cs := cs) (j := j + 1) (fun n hn => h n (by unfold namesL; exact List.mem_append_right _ hn))
  have hx : ∀ n ∈ x.names, σ' n = σ n := fun n hn => h n (by unfold namesL; exact List.mem_append_left _ hn)
  unfold tabPut
  rw [ih]
  cases x with
  | own n => simp only [hx n (by simp [AV.names])]
  | dat d =>
   cases d with
   | sc v =>
    cases v
    case slice a n c => cases a <;> cases n <;> cases c <;> rfl
    all_goals rfl
   | _ => rfl
  | _ => rfl
theorem namesL_dats : ∀ {l : List D}, namesL (l.map .dat) = []
 | [] => rfl
 | d :: l => by
  simp only [List.map_cons]
  unfold namesL
  rw [namesL_dats]
  simp [AV.names]
theorem cells_names {x : AV} {cs : List AV} (h : x.cells = some cs) : ∀ n ∈ namesL cs, n ∈ x.names := by
 have single : ∀ {y : AV}, ∀ n ∈ namesL [y], n ∈ y.names := fun {y} n hn => by unfold namesL at hn; simpa [namesL] using hn
 intro n hn
 cases x with
 | dat d =>
  cases d with
  | agg l => simp only [AV.cells, Option.some.injEq] at h; subst h; rw [namesL_dats] at hn; cases hn
  | sc v => simp only [AV.cells, Option.some.injEq] at h; subst h; exact single n hn
  | sl e l => simp only [AV.cells, Option.some.injEq] at h; subst h; exact single n hn
 | aggv l => simp only [AV.cells, Option.some.injEq] at h; subst h; unfold AV.names; exact hn
 | tup l => simp [AV.cells] at h
 | und => simp [AV.cells] at h
 | unk => simp [AV.cells] at h
 | _ => simp only [AV.cells, Option.some.injEq] at h; subst h; exact single n hn
theorem tabStore_congr {o es k j : Nat} {cs : List AV} (h : σ' o = σ o) (hc : ∀ n ∈ namesL cs, σ' n = σ n) : tabStore ty σ' nm o es k j cs = tabStore ty σ nm o es k j cs := by
 unfold tabStore
 rw [h]
 split
 ·rw [tabPut_congr hc]
 ·rfl
theorem tabAppend_congr {el : TypeId} {E : TyE} {s : AV} {o2 : Nat} (h : σ' o2 = σ o2) (hs : ∀ n ∈ s.names, σ' n = σ n) : tabAppend σ' nm el E s o2 = tabAppend σ nm el E s o2 := by
 unfold tabAppend
 rw [h]
 cases s with
 | own o => simp only [hs o (by simp [AV.names])]
 | dat d =>
  cases d with
  | sc v =>
   cases v
   case slice a n c => cases a <;> cases n <;> cases c <;> rfl
   all_goals rfl
  | _ => rfl
 | _ => rfl
theorem rowAppend_congr {el : TypeId} {E : TyE} {o g k j : Nat} {l2 : List D} {rd : List Nat} (h : σ' o = σ o) : rowAppend σ' nm el E o g k j l2 rd = rowAppend σ nm el E o g k j l2 rd := by unfold rowAppend; rw [tabAt_congr h]
theorem maskOf_congr : ∀ {cs : List AV}, (∀ n ∈ namesL cs, σ' n = σ n) → maskOf σ' cs = maskOf σ cs
 | [], _ => rfl
 | x :: cs, h => by
  have ih := maskOf_congr (cs := cs) (fun n hn => h n (by unfold namesL; exact List.mem_append_right _ hn))
  have hx : ∀ n ∈ x.names, σ' n = σ n := fun n hn => h n (by unfold namesL; exact List.mem_append_left _ hn)
  cases x with
  | own n => unfold maskOf; simp only [ih, hx n (by simp [AV.names])]
  | _ => unfold maskOf; rw [ih]
theorem elemsTab_congr {mask : List (Option TypeId)} {agg : Bool} {es : Nat} : ∀ {ps : List (Nat × AV)} {k : Nat}, (∀ n ∈ namesL (ps.map (·.2)), σ' n = σ n) → elemsTab ty σ' nm mask agg es k ps = elemsTab ty σ nm mask agg es k ps
 | [], k, _ => rfl
 | (i, x) :: ps, k, h => by
  have ih := elemsTab_congr (mask := mask) (agg := agg) (es := es) (ps := ps) (k := k + 1) (fun n hn => h n (by simp only [List.map_cons]; unfold namesL; exact List.mem_append_right _ hn))
  have hx : ∀ n ∈ x.names, σ' n = σ n := fun n hn => h n (by simp only [List.map_cons]; unfold namesL; exact List.mem_append_left _ hn)
  unfold elemsTab
  rw [ih]
  cases hc : x.cells with
  | none => rfl
  | some cs => simp only [tabPut_congr (σ := σ) (σ' := σ') (cs := cs) (fun n hn => hx n (cells_names hc n hn))]
theorem build_congr {t : TypeId} {len : Nat} {ps : List (Nat × AV)} (h : ∀ n ∈ namesL (ps.map (·.2)), σ' n = σ n) : buildSliceSpec ty σ' nm t len ps = buildSliceSpec ty σ nm t len ps := by
 have hh : maskOf σ' (headCells ps) = maskOf σ (headCells ps) := by
  cases ps with
  | nil => rfl
  | cons p ps =>
   obtain ⟨i, x⟩ := p
   show maskOf σ' (x.cells.getD []) = maskOf σ (x.cells.getD [])
   cases hc : x.cells with
   | none => rfl
   | some cs => exact maskOf_congr fun n hn => h n (by simp only [List.map_cons]; unfold namesL; exact List.mem_append_left _ (cells_names hc n hn))
 unfold buildSliceSpec
 simp only [hh, elemsTab_congr h]

theorem mpAt_congr {x : AV} (h : ∀ n ∈ x.names, σ' n = σ n) : mpAt σ' x = mpAt σ x := by
 cases x with
 | own o => simp only [mpAt, h o (by simp [AV.names])]
 | _ => rfl
theorem spec_congr_ob {e : Operand → AV} {o : Oper} (hx : ∀ n ∈ rdset σ e o, σ' n = σ n) : spec ty Γ σ' e nm o = spec ty Γ σ e nm o := by
 have h : ∀ n ∈ rdset0 e o, σ' n = σ n := fun n hn => hx n (List.mem_append_left _ hn)
 obtain ⟨dst, op, type, pos, after, guard⟩ := o
 cases op with
 | load t a =>
  unfold spec; simp only []
  simp only [rdset0] at h
  unfold loadSpec
  cases hea : e a with
  | ref ob i => rw [hea] at h; simp only [h ob (by simp [AV.names])]
  | eref ob es k j => rw [hea] at h; simp only [h ob (by simp [AV.names]), tabLoad_congr (h ob (by simp [AV.names]))]
  | rref ob g k j es i c => rw [hea] at h; simp only [rowLoad_congr (h ob (by simp [AV.names]))]
  | _ => rfl
 | store t a x =>
  unfold spec; simp only []
  simp only [rdset0] at h
  unfold storeSpec
  cases hea : e a with
  | ref ob i => rw [hea] at h; simp only [h ob (by simp [AV.names])]
  | eref ob es k j =>
   rw [hea] at h
   cases hc : (e x).cells with
   | none => cases ty t <;> rfl
   | some cs =>
    cases ty t with
    | none => rfl
    | some T => simp only [h ob (List.mem_cons_self ..), tabStore_congr (σ := σ) (σ' := σ') (h ob (List.mem_cons_self ..)) (fun n hn => h n (List.mem_cons_of_mem _ (cells_names hc n hn)))]
  | rref ob g k j es i c => rw [hea] at h; simp only [rowStore_congr (h ob (by simp [AV.names]))]
  | _ => rfl
 | buildSlice t len parts =>
  unfold spec; simp only []
  simp only [rdset0] at h
  exact build_congr fun n hn => h n (by rw [List.map_map] at hn; exact hn)
 | indexAddr t x i =>
  unfold spec; simp only []
  simp only [rdset0] at h
  unfold indexSpec
  cases hea : e x with
  | own ob => rw [hea] at h; simp only [h ob (by simp [AV.names])]
  | row ob g k j => rw [hea] at h; simp only [rowIndex_congr (h ob (by simp [AV.names]))]
  | dat d => cases elemOf ty t <;> cases isInt (e i) <;> cases d <;> rfl
  | _ => rfl
 | call c =>
  obtain ⟨callee, args, argTypes⟩ := c
  simp only [rdset0] at h
  cases callee with
  | value f =>
   unfold spec; simp only []
   simp only [calNames] at h
   cases hef : e f with
   | fn g l =>
    have hx2 : rdset σ e ⟨dst, .call ⟨.value f, args, argTypes⟩, type, pos, after, guard⟩ = namesL (args.toList.map e ++ l) ++ inn σ (namesL (args.toList.map e ++ l)) := by
     have h0 : rdset0 e ⟨dst, .call ⟨.value f, args, argTypes⟩, type, pos, after, guard⟩ = namesL (args.toList.map e ++ l) := by
      simp only [rdset0, calNames, hef]
      rw [namesL_append]
      conv => lhs; arg 2; unfold AV.names
     simp only [rdset, xset]
     rw [h0]
    rw [hx2] at hx
    exact call_congr hx
   | _ => rfl
  | invoke r m => rfl
  | builtin b =>
   simp only [calNames, List.append_nil] at h
   cases b
   case len =>
    unfold spec; simp only []
    split
    ·rename_i x t hx ht
     rw [hx] at h
     simp only [List.map_cons, List.map_nil, namesL, List.append_nil] at h
     unfold lenSpec
     cases hea : e x with
     | own ob => rw [hea] at h; simp only [h ob (by simp [AV.names])]
     | row ob g k j => rw [hea] at h; simp only [rowLen_congr (h ob (by simp [AV.names]))]
     | dat d =>
      cases ty t with
      | none => rfl
      | some T =>
       obtain ⟨desc, size, bytes, zero⟩ := T
       cases desc
       case slice el =>
        cases d with
        | sc v =>
         cases v
         case slice a n c => cases a <;> cases n <;> cases c <;> rfl
         all_goals rfl
        | _ => rfl
       all_goals rfl
     | _ => rfl
    ·rfl
   case append =>
    unfold spec; simp only []
    split
    ·rename_i x y t t' hx ht
     rw [hx] at h
     simp only [List.map_cons, List.map_nil, namesL, List.append_nil] at h
     have h1 : ∀ n ∈ (e x).names, σ' n = σ n := fun n hn => h n (List.mem_append_left _ hn)
     have h2 : ∀ es, slOf σ' es (e y) = slOf σ es (e y) := fun es => slOf_congr (fun n hn => h n (List.mem_append_right _ hn))
     unfold appendSpec
     simp only [h2]
     cases elemOf ty t with
     | none => rfl
     | some p =>
      obtain ⟨el, E⟩ := p
      simp only []
      split
      ·cases slOf σ E.size (e y) with
       | none =>
        simp only []
        cases hy : e y with
        | own o2 => exact tabAppend_congr (h o2 (List.mem_append_right _ (by rw [hy]; simp [AV.names]))) h1
        | _ => rfl
       | some q =>
        cases hea : e x with
        | own ob => rw [hea] at h1; simp only [h1 ob (by simp [AV.names])]
        | row ob g k j => rw [hea] at h1; exact rowAppend_congr (h1 ob (by simp [AV.names]))
        | dat d =>
         cases d with
         | sc v =>
          cases v
          case slice a n c => cases a <;> cases n <;> cases c <;> rfl
          all_goals rfl
         | _ => rfl
        | _ => rfl
      ·rfl
    ·rfl
   all_goals rfl
 | unOp op t x => cases op <;> rfl
 | makeMap t r => cases r <;> rfl
 | lookup t x i ok =>
  cases ok with
  | false => rfl
  | true =>
   unfold spec; simp only []
   simp only [rdset0] at h
   unfold lookupSpec
   rw [mpAt_congr h]
 | mapUpdate t x i v =>
  unfold spec; simp only []
  simp only [rdset0] at h
  unfold mapPutSpec
  rw [mpAt_congr h]
 | slice t x lo hi mx =>
  cases mx with
  | some m => rfl
  | none =>
   unfold spec; simp only []
   simp only [rdset0] at h
   unfold sliceSpec
   cases ty t with
   | none => rfl
   | some T =>
    obtain ⟨desc, size, bytes, zero, q⟩ := T
    cases desc
    case slice el =>
     cases lowOf (lo.map e) with
     | none => rfl
     | some l =>
      simp only []
      cases elemOf ty t with
      | none => cases hex : e x <;> rfl
      | some p =>
       obtain ⟨a, E⟩ := p
       cases hex : e x with
       | own ob => rw [hex] at h; simp only [h ob (by simp [AV.names])]
       | row ob g k j => rw [hex] at h; simp only [rowSlice_congr (h ob (by simp [AV.names]))]
       | dat d => cases d <;> rfl
       | _ => rfl
    case array n el =>
     cases lowOf (lo.map e) with
     | none => rfl
     | some l =>
      simp only []
      cases lo.map e with
      | some _ => rfl
      | none =>
       cases hi.map e with
       | some _ => rfl
       | none =>
        simp only []
        cases hex : e x with
        | ref ob i =>
         rw [hex] at h
         cases i with
         | zero => unfold arrAll; simp only [h ob (by simp [AV.names])]
         | succ i => rfl
        | _ => rfl
    all_goals (cases lowOf (lo.map e) <;> rfl)
 | makeFunc fn first caps => cases fn <;> rfl
 | convert s d x =>
  simp only [rdset0] at h
  unfold spec; simp only []
  unfold convSpec
  rw [slOf_congr h]
 | _ => rfl

theorem spec_congr_env {e e' : Operand → AV} {o : Oper} (h : ∀ x ∈ o.op.operands, e' x = e x) : spec ty Γ σ e' nm o = spec ty Γ σ e nm o := by
 obtain ⟨dst, op, type, pos, after, guard⟩ := o
 have pairs : ∀ ps : Array (Nat × Operand), (∀ x ∈ ps.map (·.2), e' x = e x) → (ps.toList.map fun p => (p.1, e' p.2)) = (ps.toList.map fun p => (p.1, e p.2)) := fun ps hp =>
  List.map_congr_left fun p hm => by
   have := hp p.2 (Array.mem_map.2 ⟨p, Array.mem_toList_iff.1 hm, rfl⟩)
   simp only [this]
 cases op <;> simp only [Op.operands] at h <;> unfold spec <;> simp only []
 case build t ps => rw [pairs ps fun x hx => h x (by simpa using hx)]
 case buildSlice t n ps => rw [pairs ps fun x hx => h x (by simpa using hx)]
 case slice t x lo hi mx => cases lo <;> cases hi <;> cases mx <;> simp_all
 case unOp op t x => cases op <;> simp_all
 case makeMap t r => cases r <;> rfl
 case lookup t x i ok => cases ok <;> simp_all
 case makeFunc fn first caps =>
  have hc : caps.toList.map e' = caps.toList.map e := List.map_congr_left fun x hx => h x (Array.mem_append.2 (.inr (Array.mem_toList_iff.1 hx)))
  cases fn <;> simp only [hc]
 case call c =>
  obtain ⟨callee, args, argTypes⟩ := c
  have hm : ∀ x ∈ args.toList, e' x = e x := fun x hx => h x (by unfold Call.operands; exact Array.mem_append.2 (.inr (Array.mem_toList_iff.1 hx)))
  have hargs : args.toList.map e' = args.toList.map e := List.map_congr_left hm
  cases callee with
  | value f =>
   have hf : e' f = e f := h f (by unfold Call.operands; exact Array.mem_append.2 (.inl (by simp)))
   simp only [hargs, hf]
  | invoke r m => rfl
  | builtin b =>
   cases b
   case len =>
    simp only []
    generalize args.toList = l at hm ⊢
    generalize argTypes.toList = ts
    match l, ts, hm with
    | [], _, _ => rfl
    | [x], [], _ => rfl
    | [x], [t], hm => simp only [hm x (by simp)]
    | [x], _ :: _ :: _, _ => rfl
    | _ :: _ :: _, _, _ => rfl
   case append =>
    simp only []
    generalize args.toList = l at hm ⊢
    generalize argTypes.toList = ts
    match l, ts, hm with
    | [], _, _ => rfl
    | [x], _, _ => rfl
    | [x, y], [], _ => rfl
    | [x, y], [t], _ => rfl
    | [x, y], [t, t'], hm => simp only [hm x (by simp), hm y (by simp)]
    | [x, y], _ :: _ :: _ :: _, _ => rfl
    | _ :: _ :: _ :: _, _, _ => rfl
   case max =>
    simp only []
    generalize args.toList = l at hm ⊢
    match l, hm with
    | [], _ => rfl
    | [x], _ => rfl
    | [x, y], hm => simp only [hm x (by simp), hm y (by simp)]
    | [x, y, z], hm => simp only [hm x (by simp), hm y (by simp), hm z (by simp)]
    | _ :: _ :: _ :: _ :: _, _ => rfl
   case min =>
    simp only []
    generalize args.toList = l at hm ⊢
    match l, hm with
    | [], _ => rfl
    | [x], _ => rfl
    | [x, y], hm => simp only [hm x (by simp), hm y (by simp)]
    | _ :: _ :: _ :: _, _ => rfl
   all_goals rfl
 all_goals (first | rfl | (simp_all; done))

theorem evalA_put {env : List AV} {d : Tmp} {v : AV} {x : Operand} (h : x ≠ .tmp d) : evalA (putA env (some d) v) x = evalA env x := by
 cases x with
 | tmp t =>
  have hne : d ≠ t := fun e => h (e ▸ rfl)
  simp only [evalA, putA]
  rw [List.getD_eq_getElem?_getD, List.getElem?_set_ne hne, ← List.getD_eq_getElem?_getD]
 | _ => rfl

theorem eval_put_op {ops : Array Oper} {env : List AV} {dst : Option Tmp} {v : AV} {o : Oper} (h : ∀ d, dst = some d → d ∉ o.looksAt ops) : ∀ x ∈ o.op.operands, evalA (putA env dst v) x = evalA env x := by
 intro x hx
 cases dst with
 | none => rfl
 | some d => exact evalA_put fun e => h d rfl (List.mem_append_left _ (List.mem_filterMap.2 ⟨.tmp d, by subst e; simpa using hx, rfl⟩))

theorem gspec_put {ops : Array Oper} {env : List AV} {dst : Option Tmp} {v : AV} {o : Oper} (h : ∀ d, dst = some d → d ∉ o.looksAt ops) : gspec ty Γ ops σ (putA env dst v) nm o = gspec ty Γ ops σ env nm o := by
 have hs := spec_congr_env (ty := ty) (Γ := Γ) (σ := σ) (nm := nm) (eval_put_op (env := env) (v := v) h)
 unfold gspec
 rw [hs]
 cases hg : o.guard with
 | none => rfl
 | some gw =>
  obtain ⟨j, want⟩ := gw
  simp only []
  cases hd : (ops[j]?).bind (·.dst) with
  | none => rfl
  | some d' =>
   simp only []
   cases dst with
   | none => rfl
   | some d =>
    have hne : d ≠ d' := fun e => h d rfl (by subst e; simp [Oper.looksAt, hg, hd])
    simp only [putA]
    rw [List.getD_eq_getElem?_getD, List.getElem?_set_ne hne, ← List.getD_eq_getElem?_getD]

theorem gspec_ob {ops : Array Oper} {env : List AV} {o : Oper} (h : ∀ n ∈ rdset σ (evalA env) o, σ' n = σ n) : gspec ty Γ ops σ' env nm o = gspec ty Γ ops σ env nm o := by
 unfold gspec
 rw [spec_congr_ob (ty := ty) (Γ := Γ) (nm := nm) h]

theorem rdset0_put {ops : Array Oper} {env : List AV} {dst : Option Tmp} {v : AV} {o : Oper} (h : ∀ d, dst = some d → d ∉ o.looksAt ops) : rdset0 (evalA (putA env dst v)) o = rdset0 (evalA env) o := by
 have hx := eval_put_op (env := env) (v := v) h
 obtain ⟨d0, op, type, pos, after, guard⟩ := o
 cases op <;> simp only [rdset0] <;> simp only [Op.operands] at hx
 case load t a => rw [hx a (by simp)]
 case store t a x => rw [hx a (by simp), hx x (by simp)]
 case buildSlice t len parts => rw [List.map_congr_left fun p hm => hx p.2 (by simpa using ⟨p.1, Array.mem_toList_iff.1 hm⟩)]
 case indexAddr t x i => rw [hx x (by simp)]
 case convert s d x => rw [hx x (by simp)]
 case lookup t x i ok => rw [hx x (by simp)]
 case mapUpdate t x i v => rw [hx x (by simp)]
 case slice t x lo hi mx => rw [hx x (by simp)]
 case call c =>
  obtain ⟨callee, args, argTypes⟩ := c
  simp only []
  rw [List.map_congr_left fun x hm => hx x (by unfold Call.operands; exact Array.mem_append.2 (.inr (Array.mem_toList_iff.1 hm)))]
  congr 1
  cases callee with
  | value f =>
   show (evalA (putA env dst v) f).names = (evalA env f).names
   rw [hx f (by unfold Call.operands; exact Array.mem_append.2 (.inl (by simp)))]
  | _ => rfl

theorem rdset_put {ops : Array Oper} {env : List AV} {dst : Option Tmp} {v : AV} {o : Oper} (h : ∀ d, dst = some d → d ∉ o.looksAt ops) : rdset σ (evalA (putA env dst v)) o = rdset σ (evalA env) o := by
 unfold rdset xset
 rw [rdset0_put h]
theorem rdset_congr {e : Operand → AV} {o : Oper} (h : ∀ n ∈ rdset0 e o, σ' n = σ n) : rdset σ' e o = rdset σ e o := by
 unfold rdset xset
 split
 ·rw [inn_congr h]
 ·rfl

end
end Go.Ab
