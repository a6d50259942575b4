/- My own layer, fifteenth part: regions that draw their order: the text's order serves for all. -/
import Derived.Test.YtmmffjenpfeapaaGreatAbWeak
import Derived.Still
namespace Go.Ab
set_option linter.unusedVariables false
set_option linter.unusedSimpArgs false

mutual
def AV.names : AV -> List Nat
 | .own o | .ref o _ | .eref o _ _ _ | .row o _ _ _ | .rref o _ _ _ _ _ _ => [o]
 | .aggv l | .tup l | .fn _ l => jao l
 | _ => []
def jao : List AV -> List Nat
 | [] => []
 | x :: l => x.names ++ jao l
end

def jey (e : Operand -> AV) : Callee -> List Nat
 | .value c => (e c).names
 | _ => []
def jba (e : Operand -> AV) (o : Oper) : List Nat :=
 match o.op with
 | .load _ a => (e a).names
 | .store _ a x => match e a with
  | .eref o _ _ _ => o :: (e x).names
  | y => y.names
 | .buildSlice _ _ parts => jao (parts.toList.map fun p => e p.2)
 | .indexAddr _ x _ => (e x).names
 | .convert _ _ x => (e x).names
 | .slice _ x _ _ _ => (e x).names
 | .call { callee, args, .. } => jao (args.toList.map e) ++ jey e callee
 | _ => []

def inn (σ : Objs) : List Nat -> List Nat
 | [] => []
 | o :: r => (match σ o with
  | some (.box _ l) => jgq l
  | _ => []) ++ inn σ r
def xset (σ : Objs) (e : Operand -> AV) (o : Oper) : List Nat :=
 match o.op with
 | .call { callee := .value _, .. } => inn σ (jba e o)
 | _ => []
def jbt (σ : Objs) (e : Operand -> AV) (o : Oper) : List Nat := jba e o ++ xset σ e o
def jrp (ls : List Pt) : Bool := Nat.blt 0 (Pt.ns ls)

def jsb (ty : TypeId -> Option TyE) (t : TypeId) : Bool := match ty t with
 | some { desc := .array _ _, .. } => true
 | _ => false

def mutB (ty : TypeId -> Option TyE) (Γ : Nat -> Option FnSpec) (o : Oper) : Bool :=
 match o.op with
 | .store .. => true
 | .slice t _ _ _ _ => (jbs ty t).isSome || jsb ty t
 | .buildSlice t _ _ => match jbs ty t with
  | some (el, _) => jud ty el
  | none => false
 | .call { callee := .builtin .append, .. } => true
 | .call { callee := .value (.func f), .. } => match Γ f with
  | some S => jrp S.lend
  | none => false
 | .call { callee := .value _, .. } => true
 | _ => false

section
variable {P : Program} {cx : Cx} {κ : Kap} {F : Nat -> Prop} {w : World} {U : Nat -> Prop} {nm : Nat} {σ σ' : Objs} {ty : TypeId -> Option TyE} {Γ : Nat -> Option FnSpec}

theorem jd1 : ∀ (l l' : List AV), jao (l ++ l') = jao l ++ jao l'
 | [], l' => rfl
 | x :: l, l' => by
  simp only [List.cons_append]
  have h1 : jao (x :: (l ++ l')) = x.names ++ jao (l ++ l') := by conv => lhs; unfold jao
  have h2 : jao (x :: l) = x.names ++ jao l := by conv => lhs; unfold jao
  rw [h1, h2, jd1 l l', List.append_assoc]
theorem jpn {l : List AV} {x : AV} (hx : x ∈ l) : ∀ n ∈ x.names, n ∈ jao l := by
 induction l with
 | nil => cases hx
 | cons y l ih =>
  intro n hn
  unfold jao
  rcases List.mem_cons.1 hx with rfl | hx
  ·exact List.mem_append_left _ hn
  ·exact List.mem_append_right _ (ih hx n hn)

theorem jk6 : ∀ {l : List Nat}, (∀ n ∈ l, σ' n = σ n) -> inn σ' l = inn σ l
 | [], _ => rfl
 | o :: l, h => by
  unfold inn
  rw [h o (List.mem_cons_self ..), jk6 (l := l) fun n hn => h n (List.mem_cons_of_mem _ hn)]
theorem js5 {l : List Nat} {o n : Nat} {cs : List AV} {T : TypeId} (ho : o ∈ l) (hσ : σ o = some (.box T cs)) (hn : n ∈ jgq cs) : n ∈ inn σ l := by
 induction l with
 | nil => cases ho
 | cons a l ih =>
  unfold inn
  rcases List.mem_cons.1 ho with rfl | ho
  ·rw [hσ]; exact List.mem_append_left _ hn
  ·exact List.mem_append_right _ (ih ho)
theorem ji6 : ∀ {l : List AV}, (∀ n ∈ jao l, σ' n = σ n) -> rdD.go σ' l = rdD.go σ l
 | [], _ => rfl
 | x :: l, h => by
  have ih := ji6 (l := l) (fun n hn => h n (by unfold jao; exact List.mem_append_right _ hn))
  have hx : ∀ n ∈ x.names, σ' n = σ n := fun n hn => h n (by unfold jao; exact List.mem_append_left _ hn)
  cases x with
  | dat d => simp only [rdD.go, ih]
  | own o => simp only [rdD.go, ih, slO, hx o (by simp [AV.names])]
  | _ => simp only [rdD.go]

theorem jpb {x : AV} (h : ∀ n ∈ x.names, σ' n = σ n) : rdD σ' x = rdD σ x := by
 cases x with
 | own o => simp only [rdD, slO, h o (by simp [AV.names])]
 | aggv l => simp only [rdD, ji6 (l := l) (fun n hn => h n (by unfold AV.names; exact hn))]
 | _ => rfl

theorem ji2 {es : Nat} {x : AV} (h : ∀ n ∈ x.names, σ' n = σ n) : slOf σ' es x = slOf σ es x := by
 cases x with
 | own o => simp only [slOf, h o (by simp [AV.names])]
 | dat d =>
  cases d with
  | sc v =>
   cases v
   case slice a n c => cases a <;> cases n <;> cases c <;> rfl
   all_goals rfl
  | _ => rfl
 | _ => rfl

mutual
theorem jq4 : ∀ (p : Pt) (x : AV), (∀ n ∈ x.names, σ' n = σ n) -> ja1 σ' p x = ja1 σ p x
 | .rd, x, h => by unfold ja1; rw [jpb h]
 | .zr, x, h => by cases x <;> rfl
 | .sl, x, h => by cases x <;> rfl
 | .bx, x, h => by
  cases x with
  | ref o i => cases i <;> simp only [ja1]
  | _ => simp only [ja1]
 | .bo k, x, h => by
  cases x with
  | ref o i => cases i <;> simp only [ja1, h o (by simp [AV.names])]
  | _ => simp only [ja1]
 | .ag l, x, h => by
  cases x with
  | aggv xs =>
   have := jez l xs (by unfold AV.names at h; exact h)
   simp only [ja1, this]
  | _ => simp only [ja1]
 | .fn f l, x, h => by
  cases x with
  | fn f' xs =>
   have := jez l xs (by unfold AV.names at h; exact h)
   simp only [ja1, this]
  | _ => simp only [ja1]
theorem jez : ∀ (ls : List Pt) (xs : List AV), (∀ n ∈ jao xs, σ' n = σ n) -> ja6 σ' ls xs = ja6 σ ls xs
 | [], [], _ => by simp only [ja6]
 | [], x :: xs, _ => by simp only [ja6]
 | p :: ls, [], _ => by simp only [ja6]
 | p :: ls, x :: xs, h => by
  have ih := jez ls xs (fun n hn => h n (by unfold jao; exact List.mem_append_right _ hn))
  have hx := jq4 p x (fun n hn => h n (by unfold jao; exact List.mem_append_left _ hn))
  simp only [ja6, ih, hx]
end
theorem jjb : ∀ (l l' : List Nat), inn σ (l ++ l') = inn σ l ++ inn σ l'
 | [], l' => rfl
 | o :: l, l' => by
  simp only [List.cons_append]
  have h1 : ∀ r : List Nat, inn σ (o :: r) = (match σ o with
   | some (.box _ l) => jgq l
   | _ => []) ++ inn σ r := fun r => by conv => lhs; unfold inn
  rw [h1, h1, jjb l l', List.append_assoc]
mutual
theorem jq3 : ∀ (p : Pt) (x : AV) (d : D) (ns rd : List Nat), ja1 σ p x = some (d, ns, rd) -> ∀ n ∈ ns, n ∈ x.names ++ inn σ x.names
 | .rd, x, d, ns, rd, h => by
  unfold ja1 at h
  split at h
  ·cases h; simp
  ·cases h
 | .zr, x, d, ns, rd, h => by
  cases x with
  | dat d0 =>
   simp only [ja1, Option.some.injEq, Prod.mk.injEq] at h
   obtain ⟨rfl, rfl, rfl⟩ := h
   simp
  | _ => simp [ja1] at h
 | .sl, x, d, ns, rd, h => by
  cases x with
  | own o =>
   simp only [ja1, Option.some.injEq, Prod.mk.injEq] at h
   obtain ⟨rfl, rfl, rfl⟩ := h
   simp [AV.names]
  | _ => simp [ja1] at h
 | .bx, x, d, ns, rd, h => by
  cases x with
  | ref o i =>
   cases i with
   | zero =>
    simp only [ja1, Option.some.injEq, Prod.mk.injEq] at h
    obtain ⟨rfl, rfl, rfl⟩ := h
    simp [AV.names]
   | succ i => simp [ja1] at h
  | _ => simp [ja1] at h
 | .bo k, x, d, ns, rd, h => by
  obtain ⟨o, T, l, rfl, hσ, _, _, rfl, _⟩ := jnm h
  intro n hn
  rcases List.mem_cons.1 hn with rfl | hn
  ·exact List.mem_append_left _ (by simp [AV.names])
  ·exact List.mem_append_right _ (js5 (by simp [AV.names]) hσ hn)
 | .ag l, x, d, ns, rd, h => by
  cases x with
  | aggv xs =>
   unfold ja1 at h
   split at h
   ·rename_i ds ns' rd' h1
    cases h
    unfold AV.names
    exact jdv l xs ds ns rd h1
   ·cases h
  | _ => simp [ja1] at h
 | .fn f l, x, d, ns, rd, h => by
  cases x with
  | fn f' xs =>
   unfold ja1 at h
   split at h
   ·rename_i ds ns' rd' h1
    cases hb : Nat.beq f f' with
    | false => rw [hb] at h; cases h
    | true =>
     rw [hb] at h; cases h
     unfold AV.names
     exact jdv l xs ds ns rd h1
   ·cases h
  | _ => simp [ja1] at h
theorem jdv : ∀ (ls : List Pt) (xs : List AV) (ds : List D) (ns rd : List Nat), ja6 σ ls xs = some (ds, ns, rd) -> ∀ n ∈ ns, n ∈ jao xs ++ inn σ (jao xs)
 | [], [], ds, ns, rd, h => by simp [ja6] at h; obtain ⟨_, rfl, _⟩ := h; simp
 | [], x :: xs, ds, ns, rd, h => by simp [ja6] at h
 | p :: ls, [], ds, ns, rd, h => by simp [ja6] at h
 | p :: ls, x :: xs, ds, ns, rd, h => by
  unfold ja6 at h
  split at h
  ·rename_i d ns1 rd1 ds' ns2 rd2 h1 h2
   cases h
   intro n hn
   unfold jao
   rw [jjb]
   rcases List.mem_append.1 hn with hn | hn
   ·rcases List.mem_append.1 (jq3 p x d ns1 rd1 h1 n hn) with hn | hn
    ·exact List.mem_append_left _ (List.mem_append_left _ hn)
    ·exact List.mem_append_right _ (List.mem_append_left _ hn)
   ·rcases List.mem_append.1 (jdv ls xs ds' ns2 rd2 h2 n hn) with hn | hn
    ·exact List.mem_append_left _ (List.mem_append_right _ hn)
    ·exact List.mem_append_right _ (List.mem_append_right _ hn)
  ·cases h
end
theorem jof {ls : List Pt} {xs : List AV} {ds : List D} {ns rd : List Nat} (h : ja6 σ ls xs = some (ds, ns, rd)) (hl : jrp ls = false) : ns = [] := by
 have h1 := jnk ls xs ds ns rd h
 unfold jrp at hl
 have : Pt.ns ls = 0 := by
  cases hz : Pt.ns ls with
  | zero => rfl
  | succ m => rw [hz] at hl; cases hl
 exact List.eq_nil_of_length_eq_zero (by omega)

theorem jhn {f : Nat -> Nat} : ∀ {ns : List Nat}, (∀ n ∈ ns, σ' n = σ n) -> jk2 σ' f ns = jk2 σ f ns
 | [], _ => rfl
 | o :: ns, h => by simp only [jk2, h o (List.mem_cons_self ..), jhn (ns := ns) (fun n hn => h n (List.mem_cons_of_mem _ hn))]
theorem jk1 {ns : List Nat} (h : ∀ n ∈ ns, σ' n = σ n) : jfo σ' ns = jfo σ ns := jhn h

theorem joe {f : Nat} {xs : List AV} {ats : List TypeId} (h : ∀ n ∈ jao xs ++ inn σ (jao xs), σ' n = σ n) : jc1 ty Γ σ' nm f xs ats = jc1 ty Γ σ nm f xs ats := by
 unfold jc1
 cases Γ f with
 | none => rfl
 | some S =>
  simp only [jez S.lend xs fun n hn => h n (List.mem_append_left _ hn)]
  cases hargs : ja6 σ S.lend xs with
  | none => rfl
  | some t =>
   obtain ⟨ds, ns, rd⟩ := t
   simp only [Option.map_some]
   have := jk1 (σ := σ) (σ' := σ') (ns := ns) (fun n hn => h n (jdv S.lend xs ds ns rd hargs n hn))
   simp only [this]

theorem jc4 {o g : Nat} (h : σ' o = σ o) : jcr σ' o g = jcr σ o g := by unfold jcr; rw [h]
theorem jjo {T : TyE} {o es k j : Nat} (h : σ' o = σ o) : jcv σ' T o es k j = jcv σ T o es k j := by unfold jcv; rw [h]
theorem jjz {T : TyE} {o g k j es i c : Nat} (h : σ' o = σ o) : jc6 σ' T o g k j es i c = jc6 σ T o g k j es i c := by unfold jc6; rw [jc4 h]
theorem jit {o g k j es i c : Nat} {ds : List D} (h : σ' o = σ o) : jch ty σ' o g k j es i c ds = jch ty σ o g k j es i c ds := by unfold jch; rw [jc4 h]
theorem jiu {E : TyE} {o g k j : Nat} {n : Int} (h : σ' o = σ o) : jcz σ' E o g k j n = jcz σ E o g k j n := by unfold jcz; rw [jc4 h]
theorem jku {o g k j : Nat} (h : σ' o = σ o) : jfi σ' o g k j = jfi σ o g k j := by unfold jfi; rw [jc4 h]
theorem jee {o g : Nat} {mask : List (Option TypeId)} {hole : Option (Nat × Nat)} {d : D} : ∀ {cs : List AV} {j : Nat}, (∀ n ∈ jao cs, σ' n = σ n) -> je1 ty σ' o g mask hole d j cs = je1 ty σ o g mask hole d j cs
 | [], j, _ => rfl
 | x :: cs, j, h => by
  have ih := jee (o := o) (g := g) (mask := mask) (hole := hole) (d := d) (cs := cs) (j := j + 1) (fun n hn => h n (by unfold jao; exact List.mem_append_right _ hn))
  have hx : ∀ n ∈ x.names, σ' n = σ n := fun n hn => h n (by unfold jao; exact List.mem_append_left _ hn)
  unfold je1
  rw [ih]
  cases x with
  | own n => simp only [hx n (by simp [AV.names])]
  | dat d =>
   cases d with
   | sc v =>
    cases v
    case slice a n c => cases a <;> cases n <;> cases c <;> rfl
    all_goals rfl
   | _ => rfl
  | _ => rfl
theorem jhq : ∀ {l : List D}, jao (l.map .dat) = []
 | [] => rfl
 | d :: l => by
  simp only [List.map_cons]
  unfold jao
  rw [jhq]
  simp [AV.names]
theorem jc9 {x : AV} {cs : List AV} (h : x.cells = some cs) : ∀ n ∈ jao cs, n ∈ x.names := by
 have single : ∀ {y : AV}, ∀ n ∈ jao [y], n ∈ y.names := fun {y} n hn => by unfold jao at hn; simpa [jao] using hn
 intro n hn
 cases x with
 | dat d =>
  cases d with
  | agg l => simp only [AV.cells, Option.some.injEq] at h; subst h; rw [jhq] at hn; cases hn
  | sc v => simp only [AV.cells, Option.some.injEq] at h; subst h; exact single n hn
  | sl e l => simp only [AV.cells, Option.some.injEq] at h; subst h; exact single n hn
 | aggv l => simp only [AV.cells, Option.some.injEq] at h; subst h; unfold AV.names; exact hn
 | tup l => simp [AV.cells] at h
 | und => simp [AV.cells] at h
 | unk => simp [AV.cells] at h
 | _ => simp only [AV.cells, Option.some.injEq] at h; subst h; exact single n hn
theorem jij {o es k j : Nat} {cs : List AV} (h : σ' o = σ o) (hc : ∀ n ∈ jao cs, σ' n = σ n) : jce ty σ' nm o es k j cs = jce ty σ nm o es k j cs := by
 unfold jce
 rw [h]
 split
 ·rw [jee hc]
 ·rfl
theorem jg8 {el : TypeId} {E : TyE} {s : AV} {o2 : Nat} (h : σ' o2 = σ o2) (hs : ∀ n ∈ s.names, σ' n = σ n) : jcf σ' nm el E s o2 = jcf σ nm el E s o2 := by
 unfold jcf
 rw [h]
 cases s with
 | own o => simp only [hs o (by simp [AV.names])]
 | dat d =>
  cases d with
  | sc v =>
   cases v
   case slice a n c => cases a <;> cases n <;> cases c <;> rfl
   all_goals rfl
  | _ => rfl
 | _ => rfl
theorem jhi {el : TypeId} {E : TyE} {o g k j : Nat} {l2 : List D} {rd : List Nat} (h : σ' o = σ o) : jb6 σ' nm el E o g k j l2 rd = jb6 σ nm el E o g k j l2 rd := by unfold jb6; rw [jc4 h]
theorem jgi : ∀ {cs : List AV}, (∀ n ∈ jao cs, σ' n = σ n) -> jcc σ' cs = jcc σ cs
 | [], _ => rfl
 | x :: cs, h => by
  have ih := jgi (cs := cs) (fun n hn => h n (by unfold jao; exact List.mem_append_right _ hn))
  have hx : ∀ n ∈ x.names, σ' n = σ n := fun n hn => h n (by unfold jao; exact List.mem_append_left _ hn)
  cases x with
  | own n => unfold jcc; simp only [ih, hx n (by simp [AV.names])]
  | _ => unfold jcc; rw [ih]
theorem je4 {mask : List (Option TypeId)} {agg : Bool} {es : Nat} : ∀ {ps : List (Nat × AV)} {k : Nat}, (∀ n ∈ jao (ps.map (·.2)), σ' n = σ n) -> jbp ty σ' nm mask agg es k ps = jbp ty σ nm mask agg es k ps
 | [], k, _ => rfl
 | (i, x) :: ps, k, h => by
  have ih := je4 (mask := mask) (agg := agg) (es := es) (ps := ps) (k := k + 1) (fun n hn => h n (by simp only [List.map_cons]; unfold jao; exact List.mem_append_right _ hn))
  have hx : ∀ n ∈ x.names, σ' n = σ n := fun n hn => h n (by simp only [List.map_cons]; unfold jao; exact List.mem_append_left _ hn)
  unfold jbp
  rw [ih]
  cases hc : x.cells with
  | none => rfl
  | some cs => simp only [jee (σ := σ) (σ' := σ') (cs := cs) (fun n hn => hx n (jc9 hc n hn))]
theorem jmb {t : TypeId} {len : Nat} {ps : List (Nat × AV)} (h : ∀ n ∈ jao (ps.map (·.2)), σ' n = σ n) : jbc ty σ' nm t len ps = jbc ty σ nm t len ps := by
 have hh : jcc σ' (jbr ps) = jcc σ (jbr ps) := by
  cases ps with
  | nil => rfl
  | cons p ps =>
   obtain ⟨i, x⟩ := p
   show jcc σ' (x.cells.getD []) = jcc σ (x.cells.getD [])
   cases hc : x.cells with
   | none => rfl
   | some cs => exact jgi fun n hn => h n (by simp only [List.map_cons]; unfold jao; exact List.mem_append_left _ (jc9 hc n hn))
 unfold jbc
 simp only [hh, je4 h]

theorem jjr {e : Operand -> AV} {o : Oper} (hx : ∀ n ∈ jbt σ e o, σ' n = σ n) : spec ty Γ σ' e nm o = spec ty Γ σ e nm o := by
 have h : ∀ n ∈ jba e o, σ' n = σ n := fun n hn => hx n (List.mem_append_left _ hn)
 obtain ⟨dst, op, type, pos, after, guard⟩ := o
 cases op with
 | load t a =>
  unfold spec; simp only []
  simp only [jba] at h
  unfold jbo
  cases hea : e a with
  | ref ob i => rw [hea] at h; simp only [h ob (by simp [AV.names])]
  | eref ob es k j => rw [hea] at h; simp only [h ob (by simp [AV.names]), jjo (h ob (by simp [AV.names]))]
  | rref ob g k j es i c => rw [hea] at h; simp only [jjz (h ob (by simp [AV.names]))]
  | _ => rfl
 | store t a x =>
  unfold spec; simp only []
  simp only [jba] at h
  unfold jby
  cases hea : e a with
  | ref ob i => rw [hea] at h; simp only [h ob (by simp [AV.names])]
  | eref ob es k j =>
   rw [hea] at h
   cases hc : (e x).cells with
   | none => cases ty t <;> rfl
   | some cs =>
    cases ty t with
    | none => rfl
    | some T => simp only [h ob (List.mem_cons_self ..), jij (σ := σ) (σ' := σ') (h ob (List.mem_cons_self ..)) (fun n hn => h n (List.mem_cons_of_mem _ (jc9 hc n hn)))]
  | rref ob g k j es i c => rw [hea] at h; simp only [jit (h ob (by simp [AV.names]))]
  | _ => rfl
 | buildSlice t len parts =>
  unfold spec; simp only []
  simp only [jba] at h
  exact jmb fun n hn => h n (by rw [List.map_map] at hn; exact hn)
 | indexAddr t x i =>
  unfold spec; simp only []
  simp only [jba] at h
  unfold jck
  cases hea : e x with
  | own ob => rw [hea] at h; simp only [h ob (by simp [AV.names])]
  | row ob g k j => rw [hea] at h; simp only [jiu (h ob (by simp [AV.names]))]
  | dat d => cases jbs ty t <;> cases jbu (e i) <;> cases d <;> rfl
  | _ => rfl
 | call c =>
  obtain ⟨callee, args, argTypes⟩ := c
  simp only [jba] at h
  cases callee with
  | value f =>
   unfold spec; simp only []
   simp only [jey] at h
   cases hef : e f with
   | fn g l =>
    have hx2 : jbt σ e ⟨dst, .call ⟨.value f, args, argTypes⟩, type, pos, after, guard⟩ = jao (args.toList.map e ++ l) ++ inn σ (jao (args.toList.map e ++ l)) := by
     have h0 : jba e ⟨dst, .call ⟨.value f, args, argTypes⟩, type, pos, after, guard⟩ = jao (args.toList.map e ++ l) := by
      simp only [jba, jey, hef]
      rw [jd1]
      conv => lhs; arg 2; unfold AV.names
     simp only [jbt, xset]
     rw [h0]
    rw [hx2] at hx
    exact joe hx
   | _ => rfl
  | invoke r m => rfl
  | builtin b =>
   simp only [jey, List.append_nil] at h
   cases b
   case len =>
    unfold spec; simp only []
    split
    ·rename_i x t hx ht
     rw [hx] at h
     simp only [List.map_cons, List.map_nil, jao, List.append_nil] at h
     unfold je7
     cases hea : e x with
     | own ob => rw [hea] at h; simp only [h ob (by simp [AV.names])]
     | row ob g k j => rw [hea] at h; simp only [jku (h ob (by simp [AV.names]))]
     | dat d =>
      cases ty t with
      | none => rfl
      | some T =>
       obtain ⟨desc, size, bytes, zero⟩ := T
       cases desc
       case slice el =>
        cases d with
        | sc v =>
         cases v
         case slice a n c => cases a <;> cases n <;> cases c <;> rfl
         all_goals rfl
        | _ => rfl
       all_goals rfl
     | _ => rfl
    ·rfl
   case append =>
    unfold spec; simp only []
    split
    ·rename_i x y t t' hx ht
     rw [hx] at h
     simp only [List.map_cons, List.map_nil, jao, List.append_nil] at h
     have h1 : ∀ n ∈ (e x).names, σ' n = σ n := fun n hn => h n (List.mem_append_left _ hn)
     have h2 : ∀ es, slOf σ' es (e y) = slOf σ es (e y) := fun es => ji2 (fun n hn => h n (List.mem_append_right _ hn))
     unfold jc2
     simp only [h2]
     cases jbs ty t with
     | none => rfl
     | some p =>
      obtain ⟨el, E⟩ := p
      simp only []
      split
      ·cases slOf σ E.size (e y) with
       | none =>
        simp only []
        cases hy : e y with
        | own o2 => exact jg8 (h o2 (List.mem_append_right _ (by rw [hy]; simp [AV.names]))) h1
        | _ => rfl
       | some q =>
        cases hea : e x with
        | own ob => rw [hea] at h1; simp only [h1 ob (by simp [AV.names])]
        | row ob g k j => rw [hea] at h1; exact jhi (h1 ob (by simp [AV.names]))
        | dat d =>
         cases d with
         | sc v =>
          cases v
          case slice a n c => cases a <;> cases n <;> cases c <;> rfl
          all_goals rfl
         | _ => rfl
        | _ => rfl
      ·rfl
    ·rfl
   all_goals rfl
 | unOp op t x => cases op <;> rfl
 | slice t x lo hi mx =>
  cases mx with
  | some m => rfl
  | none =>
   unfold spec; simp only []
   simp only [jba] at h
   unfold jef
   cases ty t with
   | none => rfl
   | some T =>
    obtain ⟨desc, size, bytes, zero, q⟩ := T
    cases desc
    case slice el =>
     cases jl4 (lo.map e) with
     | none => rfl
     | some l =>
      simp only []
      cases jbs ty t with
      | none => cases hex : e x <;> rfl
      | some p =>
       obtain ⟨a, E⟩ := p
       cases hex : e x with
       | own ob => rw [hex] at h; simp only [h ob (by simp [AV.names])]
       | dat d => cases d <;> rfl
       | _ => rfl
    case array n el =>
     cases jl4 (lo.map e) with
     | none => rfl
     | some l =>
      simp only []
      cases lo.map e with
      | some _ => rfl
      | none =>
       cases hi.map e with
       | some _ => rfl
       | none =>
        simp only []
        cases hex : e x with
        | ref ob i =>
         rw [hex] at h
         cases i with
         | zero => unfold jle; simp only [h ob (by simp [AV.names])]
         | succ i => rfl
        | _ => rfl
    all_goals (cases jl4 (lo.map e) <;> rfl)
 | makeFunc fn first caps => cases fn <;> rfl
 | convert s d x =>
  simp only [jba] at h
  unfold spec; simp only []
  unfold jex
  rw [ji2 h]
 | _ => rfl

theorem jil {e e' : Operand -> AV} {o : Oper} (h : ∀ x ∈ o.op.operands, e' x = e x) : spec ty Γ σ e' nm o = spec ty Γ σ e nm o := by
 obtain ⟨dst, op, type, pos, after, guard⟩ := o
 have pairs : ∀ ps : Array (Nat × Operand), (∀ x ∈ ps.map (·.2), e' x = e x) -> (ps.toList.map fun p => (p.1, e' p.2)) = (ps.toList.map fun p => (p.1, e p.2)) := fun ps hp =>
  List.map_congr_left fun p hm => by
   have := hp p.2 (Array.mem_map.2 ⟨p, Array.mem_toList_iff.1 hm, rfl⟩)
   simp only [this]
 cases op <;> simp only [Op.operands] at h <;> unfold spec <;> simp only []
 case build t ps => rw [pairs ps fun x hx => h x (by simpa using hx)]
 case buildSlice t n ps => rw [pairs ps fun x hx => h x (by simpa using hx)]
 case slice t x lo hi mx => cases lo <;> cases hi <;> cases mx <;> simp_all
 case unOp op t x => cases op <;> simp_all
 case makeFunc fn first caps =>
  have hc : caps.toList.map e' = caps.toList.map e := List.map_congr_left fun x hx => h x (Array.mem_append.2 (.inr (Array.mem_toList_iff.1 hx)))
  cases fn <;> simp only [hc]
 case call c =>
  obtain ⟨callee, args, argTypes⟩ := c
  have hm : ∀ x ∈ args.toList, e' x = e x := fun x hx => h x (by unfold Call.operands; exact Array.mem_append.2 (.inr (Array.mem_toList_iff.1 hx)))
  have hargs : args.toList.map e' = args.toList.map e := List.map_congr_left hm
  cases callee with
  | value f =>
   have hf : e' f = e f := h f (by unfold Call.operands; exact Array.mem_append.2 (.inl (by simp)))
   simp only [hargs, hf]
  | invoke r m => rfl
  | builtin b =>
   cases b
   case len =>
    simp only []
    generalize args.toList = l at hm ⊢
    generalize argTypes.toList = ts
    match l, ts, hm with
    | [], _, _ => rfl
    | [x], [], _ => rfl
    | [x], [t], hm => simp only [hm x (by simp)]
    | [x], _ :: _ :: _, _ => rfl
    | _ :: _ :: _, _, _ => rfl
   case append =>
    simp only []
    generalize args.toList = l at hm ⊢
    generalize argTypes.toList = ts
    match l, ts, hm with
    | [], _, _ => rfl
    | [x], _, _ => rfl
    | [x, y], [], _ => rfl
    | [x, y], [t], _ => rfl
    | [x, y], [t, t'], hm => simp only [hm x (by simp), hm y (by simp)]
    | [x, y], _ :: _ :: _ :: _, _ => rfl
    | _ :: _ :: _ :: _, _, _ => rfl
   case max =>
    simp only []
    generalize args.toList = l at hm ⊢
    match l, hm with
    | [], _ => rfl
    | [x], _ => rfl
    | [x, y], hm => simp only [hm x (by simp), hm y (by simp)]
    | _ :: _ :: _ :: _, _ => rfl
   case min =>
    simp only []
    generalize args.toList = l at hm ⊢
    match l, hm with
    | [], _ => rfl
    | [x], _ => rfl
    | [x, y], hm => simp only [hm x (by simp), hm y (by simp)]
    | _ :: _ :: _ :: _, _ => rfl
   all_goals rfl
 all_goals (first | rfl | (simp_all; done))

theorem jqn {env : List AV} {d : Tmp} {v : AV} {x : Operand} (h : x ≠ .tmp d) : jbb (putA env (some d) v) x = jbb env x := by
 cases x with
 | tmp t =>
  have hne : d ≠ t := fun e => h (e ▸ rfl)
  simp only [jbb, putA]
  rw [List.getD_eq_getElem?_getD, List.getElem?_set_ne hne, <- List.getD_eq_getElem?_getD]
 | _ => rfl

theorem jh7 {ops : Array Oper} {env : List AV} {dst : Option Tmp} {v : AV} {o : Oper} (h : ∀ d, dst = some d -> d ∉ o.looksAt ops) : ∀ x ∈ o.op.operands, jbb (putA env dst v) x = jbb env x := by
 intro x hx
 cases dst with
 | none => rfl
 | some d => exact jqn fun e => h d rfl (List.mem_append_left _ (List.mem_filterMap.2 ⟨.tmp d, by subst e; simpa using hx, rfl⟩))

theorem jk7 {ops : Array Oper} {env : List AV} {dst : Option Tmp} {v : AV} {o : Oper} (h : ∀ d, dst = some d -> d ∉ o.looksAt ops) : jd6 ty Γ ops σ (putA env dst v) nm o = jd6 ty Γ ops σ env nm o := by
 have hs := jil (ty := ty) (Γ := Γ) (σ := σ) (nm := nm) (jh7 (env := env) (v := v) h)
 unfold jd6
 rw [hs]
 cases hg : o.guard with
 | none => rfl
 | some gw =>
  obtain ⟨j, want⟩ := gw
  simp only []
  cases hd : (ops[j]?).bind (·.dst) with
  | none => rfl
  | some d' =>
   simp only []
   cases dst with
   | none => rfl
   | some d =>
    have hne : d ≠ d' := fun e => h d rfl (by subst e; simp [Oper.looksAt, hg, hd])
    simp only [putA]
    rw [List.getD_eq_getElem?_getD, List.getElem?_set_ne hne, <- List.getD_eq_getElem?_getD]

theorem jm8 {ops : Array Oper} {env : List AV} {o : Oper} (h : ∀ n ∈ jbt σ (jbb env) o, σ' n = σ n) : jd6 ty Γ ops σ' env nm o = jd6 ty Γ ops σ env nm o := by
 unfold jd6
 rw [jjr (ty := ty) (Γ := Γ) (nm := nm) h]

theorem jn7 {ops : Array Oper} {env : List AV} {dst : Option Tmp} {v : AV} {o : Oper} (h : ∀ d, dst = some d -> d ∉ o.looksAt ops) : jba (jbb (putA env dst v)) o = jba (jbb env) o := by
 have hx := jh7 (env := env) (v := v) h
 obtain ⟨d0, op, type, pos, after, guard⟩ := o
 cases op <;> simp only [jba] <;> simp only [Op.operands] at hx
 case load t a => rw [hx a (by simp)]
 case store t a x => rw [hx a (by simp), hx x (by simp)]
 case buildSlice t len parts => rw [List.map_congr_left fun p hm => hx p.2 (by simpa using ⟨p.1, Array.mem_toList_iff.1 hm⟩)]
 case indexAddr t x i => rw [hx x (by simp)]
 case convert s d x => rw [hx x (by simp)]
 case slice t x lo hi mx => rw [hx x (by simp)]
 case call c =>
  obtain ⟨callee, args, argTypes⟩ := c
  simp only []
  rw [List.map_congr_left fun x hm => hx x (by unfold Call.operands; exact Array.mem_append.2 (.inr (Array.mem_toList_iff.1 hm)))]
  congr 1
  cases callee with
  | value f =>
   show (jbb (putA env dst v) f).names = (jbb env f).names
   rw [hx f (by unfold Call.operands; exact Array.mem_append.2 (.inl (by simp)))]
  | _ => rfl

theorem jkv {ops : Array Oper} {env : List AV} {dst : Option Tmp} {v : AV} {o : Oper} (h : ∀ d, dst = some d -> d ∉ o.looksAt ops) : jbt σ (jbb (putA env dst v)) o = jbt σ (jbb env) o := by
 unfold jbt xset
 rw [jn7 h]
theorem jls {e : Operand -> AV} {o : Oper} (h : ∀ n ∈ jba e o, σ' n = σ n) : jbt σ' e o = jbt σ e o := by
 unfold jbt xset
 split
 ·rw [jk6 h]
 ·rfl

end
end Go.Ab
