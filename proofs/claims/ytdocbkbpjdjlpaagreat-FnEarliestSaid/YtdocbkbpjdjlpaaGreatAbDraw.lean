/- My own layer, fifteenth part: regions that draw their order: the text's order serves for all. -/
import Derived.Test.YtdocbkbpjdjlpaaGreatAbWeak
import Derived.Still
namespace Go.Ab
set_option linter.unusedVariables false
set_option linter.unusedSimpArgs false

mutual
def AV.names : AV -> List Nat
 | .own o | .ref o _ | .eref o _ _ _ | .row o _ _ _ | .rref o _ _ _ _ _ _ => [o]
 | .aggv l | .tup l | .fn _ l => jan l
 | _ => []
def jan : List AV -> List Nat
 | [] => []
 | x :: l => x.names ++ jan l
end

def jeg (e : Operand -> AV) : Callee -> List Nat
 | .value c => (e c).names
 | _ => []
def ja8 (e : Operand -> AV) (o : Oper) : List Nat :=
 match o.op with
 | .load _ a => (e a).names
 | .store _ a x => match e a with
  | .eref o _ _ _ => o :: (e x).names
  | y => y.names
 | .buildSlice _ _ parts => jan (parts.toList.map fun p => e p.2)
 | .indexAddr _ x _ => (e x).names
 | .convert _ _ x => (e x).names
 | .slice _ x _ _ _ => (e x).names
 | .call { callee, args, .. } => jan (args.toList.map e) ++ jeg e callee
 | _ => []

def inn (σ : Objs) : List Nat -> List Nat
 | [] => []
 | o :: r => (match σ o with
  | some (.box _ l) => jf2 l
  | _ => []) ++ inn σ r
def xset (σ : Objs) (e : Operand -> AV) (o : Oper) : List Nat :=
 match o.op with
 | .call { callee := .value _, .. } => inn σ (ja8 e o)
 | _ => []
def jbq (σ : Objs) (e : Operand -> AV) (o : Oper) : List Nat := ja8 e o ++ xset σ e o
def jqu (ls : List Pt) : Bool := Nat.blt 0 (Pt.ns ls)

def jrd (ty : TypeId -> Option TyE) (t : TypeId) : Bool := match ty t with
 | some { desc := .array _ _, .. } => true
 | _ => false

def mutB (ty : TypeId -> Option TyE) (Γ : Nat -> Option FnSpec) (o : Oper) : Bool :=
 match o.op with
 | .store .. => true
 | .slice t _ _ _ _ => (jbp ty t).isSome || jrd ty t
 | .buildSlice t _ _ => match jbp ty t with
  | some (el, _) => jte ty el
  | none => false
 | .call { callee := .builtin .append, .. } => true
 | .call { callee := .value (.func f), .. } => match Γ f with
  | some S => jqu S.lend
  | none => false
 | .call { callee := .value _, .. } => true
 | _ => false

section
variable {P : Program} {cx : Cx} {κ : Kap} {F : Nat -> Prop} {w : World} {U : Nat -> Prop} {nm : Nat} {σ σ' : Objs} {ty : TypeId -> Option TyE} {Γ : Nat -> Option FnSpec}

theorem jdn : ∀ (l l' : List AV), jan (l ++ l') = jan l ++ jan l'
 | [], l' => rfl
 | x :: l, l' => by
  simp only [List.cons_append]
  have h1 : jan (x :: (l ++ l')) = x.names ++ jan (l ++ l') := by conv => lhs; unfold jan
  have h2 : jan (x :: l) = x.names ++ jan l := by conv => lhs; unfold jan
  rw [h1, h2, jdn l l', List.append_assoc]
theorem jox {l : List AV} {x : AV} (hx : x ∈ l) : ∀ n ∈ x.names, n ∈ jan l := by
 induction l with
 | nil => cases hx
 | cons y l ih =>
  intro n hn
  unfold jan
  rcases List.mem_cons.1 hx with rfl | hx
  ·exact List.mem_append_left _ hn
  ·exact List.mem_append_right _ (ih hx n hn)

theorem jkc : ∀ {l : List Nat}, (∀ n ∈ l, σ' n = σ n) -> inn σ' l = inn σ l
 | [], _ => rfl
 | o :: l, h => by
  unfold inn
  rw [h o (List.mem_cons_self ..), jkc (l := l) fun n hn => h n (List.mem_cons_of_mem _ hn)]
theorem jsd {l : List Nat} {o n : Nat} {cs : List AV} {T : TypeId} (ho : o ∈ l) (hσ : σ o = some (.box T cs)) (hn : n ∈ jf2 cs) : n ∈ inn σ l := by
 induction l with
 | nil => cases ho
 | cons a l ih =>
  unfold inn
  rcases List.mem_cons.1 ho with rfl | ho
  ·rw [hσ]; exact List.mem_append_left _ hn
  ·exact List.mem_append_right _ (ih ho)
theorem jib : ∀ {l : List AV}, (∀ n ∈ jan l, σ' n = σ n) -> rdD.go σ' l = rdD.go σ l
 | [], _ => rfl
 | x :: l, h => by
  have ih := jib (l := l) (fun n hn => h n (by unfold jan; exact List.mem_append_right _ hn))
  have hx : ∀ n ∈ x.names, σ' n = σ n := fun n hn => h n (by unfold jan; exact List.mem_append_left _ hn)
  cases x with
  | dat d => simp only [rdD.go, ih]
  | own o => simp only [rdD.go, ih, slO, hx o (by simp [AV.names])]
  | _ => simp only [rdD.go]

theorem jol {x : AV} (h : ∀ n ∈ x.names, σ' n = σ n) : rdD σ' x = rdD σ x := by
 cases x with
 | own o => simp only [rdD, slO, h o (by simp [AV.names])]
 | aggv l => simp only [rdD, jib (l := l) (fun n hn => h n (by unfold AV.names; exact hn))]
 | _ => rfl

theorem jh8 {es : Nat} {x : AV} (h : ∀ n ∈ x.names, σ' n = σ n) : slOf σ' es x = slOf σ es x := by
 cases x with
 | own o => simp only [slOf, h o (by simp [AV.names])]
 | dat d =>
  cases d with
  | sc v =>
   cases v
   case slice a n c => cases a <;> cases n <;> cases c <;> rfl
   all_goals rfl
  | _ => rfl
 | _ => rfl

mutual
theorem jp9 : ∀ (p : Pt) (x : AV), (∀ n ∈ x.names, σ' n = σ n) -> jay σ' p x = jay σ p x
 | .rd, x, h => by unfold jay; rw [jol h]
 | .zr, x, h => by cases x <;> rfl
 | .sl, x, h => by cases x <;> rfl
 | .bx, x, h => by
  cases x with
  | ref o i => cases i <;> simp only [jay]
  | _ => simp only [jay]
 | .bo k, x, h => by
  cases x with
  | ref o i => cases i <;> simp only [jay, h o (by simp [AV.names])]
  | _ => simp only [jay]
 | .ag l, x, h => by
  cases x with
  | aggv xs =>
   have := jeh l xs (by unfold AV.names at h; exact h)
   simp only [jay, this]
  | _ => simp only [jay]
 | .fn f l, x, h => by
  cases x with
  | fn f' xs =>
   have := jeh l xs (by unfold AV.names at h; exact h)
   simp only [jay, this]
  | _ => simp only [jay]
theorem jeh : ∀ (ls : List Pt) (xs : List AV), (∀ n ∈ jan xs, σ' n = σ n) -> ja3 σ' ls xs = ja3 σ ls xs
 | [], [], _ => by simp only [ja3]
 | [], x :: xs, _ => by simp only [ja3]
 | p :: ls, [], _ => by simp only [ja3]
 | p :: ls, x :: xs, h => by
  have ih := jeh ls xs (fun n hn => h n (by unfold jan; exact List.mem_append_right _ hn))
  have hx := jp9 p x (fun n hn => h n (by unfold jan; exact List.mem_append_left _ hn))
  simp only [ja3, ih, hx]
end
theorem jig : ∀ (l l' : List Nat), inn σ (l ++ l') = inn σ l ++ inn σ l'
 | [], l' => rfl
 | o :: l, l' => by
  simp only [List.cons_append]
  have h1 : ∀ r : List Nat, inn σ (o :: r) = (match σ o with
   | some (.box _ l) => jf2 l
   | _ => []) ++ inn σ r := fun r => by conv => lhs; unfold inn
  rw [h1, h1, jig l l', List.append_assoc]
mutual
theorem jp8 : ∀ (p : Pt) (x : AV) (d : D) (ns rd : List Nat), jay σ p x = some (d, ns, rd) -> ∀ n ∈ ns, n ∈ x.names ++ inn σ x.names
 | .rd, x, d, ns, rd, h => by
  unfold jay at h
  split at h
  ·cases h; simp
  ·cases h
 | .zr, x, d, ns, rd, h => by
  cases x with
  | dat d0 =>
   simp only [jay, Option.some.injEq, Prod.mk.injEq] at h
   obtain ⟨rfl, rfl, rfl⟩ := h
   simp
  | _ => simp [jay] at h
 | .sl, x, d, ns, rd, h => by
  cases x with
  | own o =>
   simp only [jay, Option.some.injEq, Prod.mk.injEq] at h
   obtain ⟨rfl, rfl, rfl⟩ := h
   simp [AV.names]
  | _ => simp [jay] at h
 | .bx, x, d, ns, rd, h => by
  cases x with
  | ref o i =>
   cases i with
   | zero =>
    simp only [jay, Option.some.injEq, Prod.mk.injEq] at h
    obtain ⟨rfl, rfl, rfl⟩ := h
    simp [AV.names]
   | succ i => simp [jay] at h
  | _ => simp [jay] at h
 | .bo k, x, d, ns, rd, h => by
  obtain ⟨o, T, l, rfl, hσ, _, _, rfl, _⟩ := jmw h
  intro n hn
  rcases List.mem_cons.1 hn with rfl | hn
  ·exact List.mem_append_left _ (by simp [AV.names])
  ·exact List.mem_append_right _ (jsd (by simp [AV.names]) hσ hn)
 | .ag l, x, d, ns, rd, h => by
  cases x with
  | aggv xs =>
   unfold jay at h
   split at h
   ·rename_i ds ns' rd' h1
    cases h
    unfold AV.names
    exact jdh l xs ds ns rd h1
   ·cases h
  | _ => simp [jay] at h
 | .fn f l, x, d, ns, rd, h => by
  cases x with
  | fn f' xs =>
   unfold jay at h
   split at h
   ·rename_i ds ns' rd' h1
    cases hb : Nat.beq f f' with
    | false => rw [hb] at h; cases h
    | true =>
     rw [hb] at h; cases h
     unfold AV.names
     exact jdh l xs ds ns rd h1
   ·cases h
  | _ => simp [jay] at h
theorem jdh : ∀ (ls : List Pt) (xs : List AV) (ds : List D) (ns rd : List Nat), ja3 σ ls xs = some (ds, ns, rd) -> ∀ n ∈ ns, n ∈ jan xs ++ inn σ (jan xs)
 | [], [], ds, ns, rd, h => by simp [ja3] at h; obtain ⟨_, rfl, _⟩ := h; simp
 | [], x :: xs, ds, ns, rd, h => by simp [ja3] at h
 | p :: ls, [], ds, ns, rd, h => by simp [ja3] at h
 | p :: ls, x :: xs, ds, ns, rd, h => by
  unfold ja3 at h
  split at h
  ·rename_i d ns1 rd1 ds' ns2 rd2 h1 h2
   cases h
   intro n hn
   unfold jan
   rw [jig]
   rcases List.mem_append.1 hn with hn | hn
   ·rcases List.mem_append.1 (jp8 p x d ns1 rd1 h1 n hn) with hn | hn
    ·exact List.mem_append_left _ (List.mem_append_left _ hn)
    ·exact List.mem_append_right _ (List.mem_append_left _ hn)
   ·rcases List.mem_append.1 (jdh ls xs ds' ns2 rd2 h2 n hn) with hn | hn
    ·exact List.mem_append_left _ (List.mem_append_right _ hn)
    ·exact List.mem_append_right _ (List.mem_append_right _ hn)
  ·cases h
end
theorem jnp {ls : List Pt} {xs : List AV} {ds : List D} {ns rd : List Nat} (h : ja3 σ ls xs = some (ds, ns, rd)) (hl : jqu ls = false) : ns = [] := by
 have h1 := jmu ls xs ds ns rd h
 unfold jqu at hl
 have : Pt.ns ls = 0 := by
  cases hz : Pt.ns ls with
  | zero => rfl
  | succ m => rw [hz] at hl; cases hl
 exact List.eq_nil_of_length_eq_zero (by omega)

theorem jgy {f : Nat -> Nat} : ∀ {ns : List Nat}, (∀ n ∈ ns, σ' n = σ n) -> jj5 σ' f ns = jj5 σ f ns
 | [], _ => rfl
 | o :: ns, h => by simp only [jj5, h o (List.mem_cons_self ..), jgy (ns := ns) (fun n hn => h n (List.mem_cons_of_mem _ hn))]
theorem jj4 {ns : List Nat} (h : ∀ n ∈ ns, σ' n = σ n) : je1 σ' ns = je1 σ ns := jgy h

theorem jno {f : Nat} {xs : List AV} {ats : List TypeId} (h : ∀ n ∈ jan xs ++ inn σ (jan xs), σ' n = σ n) : jcq ty Γ σ' nm f xs ats = jcq ty Γ σ nm f xs ats := by
 unfold jcq
 cases Γ f with
 | none => rfl
 | some S =>
  simp only [jeh S.lend xs fun n hn => h n (List.mem_append_left _ hn)]
  cases hargs : ja3 σ S.lend xs with
  | none => rfl
  | some t =>
   obtain ⟨ds, ns, rd⟩ := t
   simp only [Option.map_some]
   have := jj4 (σ := σ) (σ' := σ') (ns := ns) (fun n hn => h n (jdh S.lend xs ds ns rd hargs n hn))
   simp only [this]

theorem jcu {o g : Nat} (h : σ' o = σ o) : jci σ' o g = jci σ o g := by unfold jci; rw [h]
theorem jit {T : TyE} {o es k j : Nat} (h : σ' o = σ o) : jcl σ' T o es k j = jcl σ T o es k j := by unfold jcl; rw [h]
theorem ji5 {T : TyE} {o g k j es i c : Nat} (h : σ' o = σ o) : jcw σ' T o g k j es i c = jcw σ T o g k j es i c := by unfold jcw; rw [jcu h]
theorem jh1 {o g k j es i c : Nat} {ds : List D} (h : σ' o = σ o) : jcc ty σ' o g k j es i c ds = jcc ty σ o g k j es i c ds := by unfold jcc; rw [jcu h]
theorem jh2 {E : TyE} {o g k j : Nat} {n : Int} (h : σ' o = σ o) : jco σ' E o g k j n = jco σ E o g k j n := by unfold jco; rw [jcu h]
theorem jjz {o g k j : Nat} (h : σ' o = σ o) : jew σ' o g k j = jew σ o g k j := by unfold jew; rw [jcu h]
theorem jdw {o g : Nat} {mask : List (Option TypeId)} {hole : Option (Nat × Nat)} {d : D} : ∀ {cs : List AV} {j : Nat}, (∀ n ∈ jan cs, σ' n = σ n) -> jej ty σ' o g mask hole d j cs = jej ty σ o g mask hole d j cs
 | [], j, _ => rfl
 | x :: cs, j, h => by
  have ih := jdw (o := o) (g := g) (mask := mask) (hole := hole) (d := d) (cs := cs) (j := j + 1) (fun n hn => h n (by unfold jan; exact List.mem_append_right _ hn))
  have hx : ∀ n ∈ x.names, σ' n = σ n := fun n hn => h n (by unfold jan; exact List.mem_append_left _ hn)
  unfold jej
  rw [ih]
  cases x with
  | own n => simp only [hx n (by simp [AV.names])]
  | dat d =>
   cases d with
   | sc v =>
    cases v
    case slice a n c => cases a <;> cases n <;> cases c <;> rfl
    all_goals rfl
   | _ => rfl
  | _ => rfl
theorem jg1 : ∀ {l : List D}, jan (l.map .dat) = []
 | [] => rfl
 | d :: l => by
  simp only [List.map_cons]
  unfold jan
  rw [jg1]
  simp [AV.names]
theorem jcz {x : AV} {cs : List AV} (h : x.cells = some cs) : ∀ n ∈ jan cs, n ∈ x.names := by
 have single : ∀ {y : AV}, ∀ n ∈ jan [y], n ∈ y.names := fun {y} n hn => by unfold jan at hn; simpa [jan] using hn
 intro n hn
 cases x with
 | dat d =>
  cases d with
  | agg l => simp only [AV.cells, Option.some.injEq] at h; subst h; rw [jg1] at hn; cases hn
  | sc v => simp only [AV.cells, Option.some.injEq] at h; subst h; exact single n hn
  | sl e l => simp only [AV.cells, Option.some.injEq] at h; subst h; exact single n hn
 | aggv l => simp only [AV.cells, Option.some.injEq] at h; subst h; unfold AV.names; exact hn
 | tup l => simp [AV.cells] at h
 | und => simp [AV.cells] at h
 | unk => simp [AV.cells] at h
 | _ => simp only [AV.cells, Option.some.injEq] at h; subst h; exact single n hn
theorem jhr {o es k j : Nat} {cs : List AV} (h : σ' o = σ o) (hc : ∀ n ∈ jan cs, σ' n = σ n) : jb8 ty σ' nm o es k j cs = jb8 ty σ nm o es k j cs := by
 unfold jb8
 rw [h]
 split
 ·rw [jdw hc]
 ·rfl
theorem jgi {el : TypeId} {E : TyE} {s : AV} {o2 : Nat} (h : σ' o2 = σ o2) (hs : ∀ n ∈ s.names, σ' n = σ n) : jb9 σ' nm el E s o2 = jb9 σ nm el E s o2 := by
 unfold jb9
 rw [h]
 cases s with
 | own o => simp only [hs o (by simp [AV.names])]
 | dat d =>
  cases d with
  | sc v =>
   cases v
   case slice a n c => cases a <;> cases n <;> cases c <;> rfl
   all_goals rfl
  | _ => rfl
 | _ => rfl
theorem jgt {el : TypeId} {E : TyE} {o g k j : Nat} {l2 : List D} {rd : List Nat} (h : σ' o = σ o) : jbz σ' nm el E o g k j l2 rd = jbz σ nm el E o g k j l2 rd := by unfold jbz; rw [jcu h]
theorem jfv : ∀ {cs : List AV}, (∀ n ∈ jan cs, σ' n = σ n) -> jb6 σ' cs = jb6 σ cs
 | [], _ => rfl
 | x :: cs, h => by
  have ih := jfv (cs := cs) (fun n hn => h n (by unfold jan; exact List.mem_append_right _ hn))
  have hx : ∀ n ∈ x.names, σ' n = σ n := fun n hn => h n (by unfold jan; exact List.mem_append_left _ hn)
  cases x with
  | own n => unfold jb6; simp only [ih, hx n (by simp [AV.names])]
  | _ => unfold jb6; rw [ih]
theorem jel {mask : List (Option TypeId)} {agg : Bool} {es : Nat} : ∀ {ps : List (Nat × AV)} {k : Nat}, (∀ n ∈ jan (ps.map (·.2)), σ' n = σ n) -> jbm ty σ' nm mask agg es k ps = jbm ty σ nm mask agg es k ps
 | [], k, _ => rfl
 | (i, x) :: ps, k, h => by
  have ih := jel (mask := mask) (agg := agg) (es := es) (ps := ps) (k := k + 1) (fun n hn => h n (by simp only [List.map_cons]; unfold jan; exact List.mem_append_right _ hn))
  have hx : ∀ n ∈ x.names, σ' n = σ n := fun n hn => h n (by simp only [List.map_cons]; unfold jan; exact List.mem_append_left _ hn)
  unfold jbm
  rw [ih]
  cases hc : x.cells with
  | none => rfl
  | some cs => simp only [jdw (σ := σ) (σ' := σ') (cs := cs) (fun n hn => hx n (jcz hc n hn))]
theorem jlh {t : TypeId} {len : Nat} {ps : List (Nat × AV)} (h : ∀ n ∈ jan (ps.map (·.2)), σ' n = σ n) : jbb ty σ' nm t len ps = jbb ty σ nm t len ps := by
 have hh : jb6 σ' (jbo ps) = jb6 σ (jbo ps) := by
  cases ps with
  | nil => rfl
  | cons p ps =>
   obtain ⟨i, x⟩ := p
   show jb6 σ' (x.cells.getD []) = jb6 σ (x.cells.getD [])
   cases hc : x.cells with
   | none => rfl
   | some cs => exact jfv fun n hn => h n (by simp only [List.map_cons]; unfold jan; exact List.mem_append_left _ (jcz hc n hn))
 unfold jbb
 simp only [hh, jel h]

theorem jiw {e : Operand -> AV} {o : Oper} (hx : ∀ n ∈ jbq σ e o, σ' n = σ n) : spec ty Γ σ' e nm o = spec ty Γ σ e nm o := by
 have h : ∀ n ∈ ja8 e o, σ' n = σ n := fun n hn => hx n (List.mem_append_left _ hn)
 obtain ⟨dst, op, type, pos, after, guard⟩ := o
 cases op with
 | load t a =>
  unfold spec; simp only []
  simp only [ja8] at h
  unfold jbl
  cases hea : e a with
  | ref ob i => rw [hea] at h; simp only [h ob (by simp [AV.names])]
  | eref ob es k j => rw [hea] at h; simp only [h ob (by simp [AV.names]), jit (h ob (by simp [AV.names]))]
  | rref ob g k j es i c => rw [hea] at h; simp only [ji5 (h ob (by simp [AV.names]))]
  | _ => rfl
 | store t a x =>
  unfold spec; simp only []
  simp only [ja8] at h
  unfold jbt
  cases hea : e a with
  | ref ob i => rw [hea] at h; simp only [h ob (by simp [AV.names])]
  | eref ob es k j =>
   rw [hea] at h
   cases hc : (e x).cells with
   | none => cases ty t <;> rfl
   | some cs =>
    cases ty t with
    | none => rfl
    | some T => simp only [h ob (List.mem_cons_self ..), jhr (σ := σ) (σ' := σ') (h ob (List.mem_cons_self ..)) (fun n hn => h n (List.mem_cons_of_mem _ (jcz hc n hn)))]
  | rref ob g k j es i c => rw [hea] at h; simp only [jh1 (h ob (by simp [AV.names]))]
  | _ => rfl
 | buildSlice t len parts =>
  unfold spec; simp only []
  simp only [ja8] at h
  exact jlh fun n hn => h n (by rw [List.map_map] at hn; exact hn)
 | indexAddr t x i =>
  unfold spec; simp only []
  simp only [ja8] at h
  unfold jce
  cases hea : e x with
  | own ob => rw [hea] at h; simp only [h ob (by simp [AV.names])]
  | row ob g k j => rw [hea] at h; simp only [jh2 (h ob (by simp [AV.names]))]
  | dat d => cases jbp ty t <;> cases jbr (e i) <;> cases d <;> rfl
  | _ => rfl
 | call c =>
  obtain ⟨callee, args, argTypes⟩ := c
  simp only [ja8] at h
  cases callee with
  | value f =>
   unfold spec; simp only []
   simp only [jeg] at h
   cases hef : e f with
   | fn g l =>
    have hx2 : jbq σ e ⟨dst, .call ⟨.value f, args, argTypes⟩, type, pos, after, guard⟩ = jan (args.toList.map e ++ l) ++ inn σ (jan (args.toList.map e ++ l)) := by
     have h0 : ja8 e ⟨dst, .call ⟨.value f, args, argTypes⟩, type, pos, after, guard⟩ = jan (args.toList.map e ++ l) := by
      simp only [ja8, jeg, hef]
      rw [jdn]
      conv => lhs; arg 2; unfold AV.names
     simp only [jbq, xset]
     rw [h0]
    rw [hx2] at hx
    exact jno hx
   | _ => rfl
  | invoke r m => rfl
  | builtin b =>
   simp only [jeg, List.append_nil] at h
   cases b
   case len =>
    unfold spec; simp only []
    split
    ·rename_i x t hx ht
     rw [hx] at h
     simp only [List.map_cons, List.map_nil, jan, List.append_nil] at h
     unfold jen
     cases hea : e x with
     | own ob => rw [hea] at h; simp only [h ob (by simp [AV.names])]
     | row ob g k j => rw [hea] at h; simp only [jjz (h ob (by simp [AV.names]))]
     | dat d =>
      cases ty t with
      | none => rfl
      | some T =>
       obtain ⟨desc, size, bytes, zero⟩ := T
       cases desc
       case slice el =>
        cases d with
        | sc v =>
         cases v
         case slice a n c => cases a <;> cases n <;> cases c <;> rfl
         all_goals rfl
        | _ => rfl
       all_goals rfl
     | _ => rfl
    ·rfl
   case append =>
    unfold spec; simp only []
    split
    ·rename_i x y t t' hx ht
     rw [hx] at h
     simp only [List.map_cons, List.map_nil, jan, List.append_nil] at h
     have h1 : ∀ n ∈ (e x).names, σ' n = σ n := fun n hn => h n (List.mem_append_left _ hn)
     have h2 : ∀ es, slOf σ' es (e y) = slOf σ es (e y) := fun es => jh8 (fun n hn => h n (List.mem_append_right _ hn))
     unfold jcr
     simp only [h2]
     cases jbp ty t with
     | none => rfl
     | some p =>
      obtain ⟨el, E⟩ := p
      simp only []
      split
      ·cases slOf σ E.size (e y) with
       | none =>
        simp only []
        cases hy : e y with
        | own o2 => exact jgi (h o2 (List.mem_append_right _ (by rw [hy]; simp [AV.names]))) h1
        | _ => rfl
       | some q =>
        cases hea : e x with
        | own ob => rw [hea] at h1; simp only [h1 ob (by simp [AV.names])]
        | row ob g k j => rw [hea] at h1; exact jgt (h1 ob (by simp [AV.names]))
        | dat d =>
         cases d with
         | sc v =>
          cases v
          case slice a n c => cases a <;> cases n <;> cases c <;> rfl
          all_goals rfl
         | _ => rfl
        | _ => rfl
      ·rfl
    ·rfl
   all_goals rfl
 | unOp op t x => cases op <;> rfl
 | slice t x lo hi mx =>
  cases mx with
  | some m => rfl
  | none =>
   unfold spec; simp only []
   simp only [ja8] at h
   unfold jdx
   cases ty t with
   | none => rfl
   | some T =>
    obtain ⟨desc, size, bytes, zero, q⟩ := T
    cases desc
    case slice el =>
     cases jlb (lo.map e) with
     | none => rfl
     | some l =>
      simp only []
      cases jbp ty t with
      | none => cases hex : e x <;> rfl
      | some p =>
       obtain ⟨a, E⟩ := p
       cases hex : e x with
       | own ob => rw [hex] at h; simp only [h ob (by simp [AV.names])]
       | dat d => cases d <;> rfl
       | _ => rfl
    case array n el =>
     cases jlb (lo.map e) with
     | none => rfl
     | some l =>
      simp only []
      cases lo.map e with
      | some _ => rfl
      | none =>
       cases hi.map e with
       | some _ => rfl
       | none =>
        simp only []
        cases hex : e x with
        | ref ob i =>
         rw [hex] at h
         cases i with
         | zero => unfold jkm; simp only [h ob (by simp [AV.names])]
         | succ i => rfl
        | _ => rfl
    all_goals (cases jlb (lo.map e) <;> rfl)
 | makeFunc fn first caps => cases fn <;> rfl
 | convert s d x =>
  simp only [ja8] at h
  unfold spec; simp only []
  unfold jef
  rw [jh8 h]
 | _ => rfl

theorem jht {e e' : Operand -> AV} {o : Oper} (h : ∀ x ∈ o.op.operands, e' x = e x) : spec ty Γ σ e' nm o = spec ty Γ σ e nm o := by
 obtain ⟨dst, op, type, pos, after, guard⟩ := o
 have pairs : ∀ ps : Array (Nat × Operand), (∀ x ∈ ps.map (·.2), e' x = e x) -> (ps.toList.map fun p => (p.1, e' p.2)) = (ps.toList.map fun p => (p.1, e p.2)) := fun ps hp =>
  List.map_congr_left fun p hm => by
   have := hp p.2 (Array.mem_map.2 ⟨p, Array.mem_toList_iff.1 hm, rfl⟩)
   simp only [this]
 cases op <;> simp only [Op.operands] at h <;> unfold spec <;> simp only []
 case build t ps => rw [pairs ps fun x hx => h x (by simpa using hx)]
 case buildSlice t n ps => rw [pairs ps fun x hx => h x (by simpa using hx)]
 case slice t x lo hi mx => cases lo <;> cases hi <;> cases mx <;> simp_all
 case unOp op t x => cases op <;> simp_all
 case makeFunc fn first caps =>
  have hc : caps.toList.map e' = caps.toList.map e := List.map_congr_left fun x hx => h x (Array.mem_append.2 (.inr (Array.mem_toList_iff.1 hx)))
  cases fn <;> simp only [hc]
 case call c =>
  obtain ⟨callee, args, argTypes⟩ := c
  have hm : ∀ x ∈ args.toList, e' x = e x := fun x hx => h x (by unfold Call.operands; exact Array.mem_append.2 (.inr (Array.mem_toList_iff.1 hx)))
  have hargs : args.toList.map e' = args.toList.map e := List.map_congr_left hm
  cases callee with
  | value f =>
   have hf : e' f = e f := h f (by unfold Call.operands; exact Array.mem_append.2 (.inl (by simp)))
   simp only [hargs, hf]
  | invoke r m => rfl
  | builtin b =>
   cases b
   case len =>
    simp only []
    generalize args.toList = l at hm ⊢
    generalize argTypes.toList = ts
    match l, ts, hm with
    | [], _, _ => rfl
    | [x], [], _ => rfl
    | [x], [t], hm => simp only [hm x (by simp)]
    | [x], _ :: _ :: _, _ => rfl
    | _ :: _ :: _, _, _ => rfl
   case append =>
    simp only []
    generalize args.toList = l at hm ⊢
    generalize argTypes.toList = ts
    match l, ts, hm with
    | [], _, _ => rfl
    | [x], _, _ => rfl
    | [x, y], [], _ => rfl
    | [x, y], [t], _ => rfl
    | [x, y], [t, t'], hm => simp only [hm x (by simp), hm y (by simp)]
    | [x, y], _ :: _ :: _ :: _, _ => rfl
    | _ :: _ :: _ :: _, _, _ => rfl
   case max =>
    simp only []
    generalize args.toList = l at hm ⊢
    match l, hm with
    | [], _ => rfl
    | [x], _ => rfl
    | [x, y], hm => simp only [hm x (by simp), hm y (by simp)]
    | _ :: _ :: _ :: _, _ => rfl
   case min =>
    simp only []
    generalize args.toList = l at hm ⊢
    match l, hm with
    | [], _ => rfl
    | [x], _ => rfl
    | [x, y], hm => simp only [hm x (by simp), hm y (by simp)]
    | _ :: _ :: _ :: _, _ => rfl
   all_goals rfl
 all_goals (first | rfl | (simp_all; done))

theorem jpu {env : List AV} {d : Tmp} {v : AV} {x : Operand} (h : x ≠ .tmp d) : jba (putA env (some d) v) x = jba env x := by
 cases x with
 | tmp t =>
  have hne : d ≠ t := fun e => h (e ▸ rfl)
  simp only [jba, putA]
  rw [List.getD_eq_getElem?_getD, List.getElem?_set_ne hne, <- List.getD_eq_getElem?_getD]
 | _ => rfl

theorem jhf {ops : Array Oper} {env : List AV} {dst : Option Tmp} {v : AV} {o : Oper} (h : ∀ d, dst = some d -> d ∉ o.looksAt ops) : ∀ x ∈ o.op.operands, jba (putA env dst v) x = jba env x := by
 intro x hx
 cases dst with
 | none => rfl
 | some d => exact jpu fun e => h d rfl (List.mem_append_left _ (List.mem_filterMap.2 ⟨.tmp d, by subst e; simpa using hx, rfl⟩))

theorem jke {ops : Array Oper} {env : List AV} {dst : Option Tmp} {v : AV} {o : Oper} (h : ∀ d, dst = some d -> d ∉ o.looksAt ops) : jd1 ty Γ ops σ (putA env dst v) nm o = jd1 ty Γ ops σ env nm o := by
 have hs := jht (ty := ty) (Γ := Γ) (σ := σ) (nm := nm) (jhf (env := env) (v := v) h)
 unfold jd1
 rw [hs]
 cases hg : o.guard with
 | none => rfl
 | some gw =>
  obtain ⟨j, want⟩ := gw
  simp only []
  cases hd : (ops[j]?).bind (·.dst) with
  | none => rfl
  | some d' =>
   simp only []
   cases dst with
   | none => rfl
   | some d =>
    have hne : d ≠ d' := fun e => h d rfl (by subst e; simp [Oper.looksAt, hg, hd])
    simp only [putA]
    rw [List.getD_eq_getElem?_getD, List.getElem?_set_ne hne, <- List.getD_eq_getElem?_getD]

theorem jmj {ops : Array Oper} {env : List AV} {o : Oper} (h : ∀ n ∈ jbq σ (jba env) o, σ' n = σ n) : jd1 ty Γ ops σ' env nm o = jd1 ty Γ ops σ env nm o := by
 unfold jd1
 rw [jiw (ty := ty) (Γ := Γ) (nm := nm) h]

theorem jnh {ops : Array Oper} {env : List AV} {dst : Option Tmp} {v : AV} {o : Oper} (h : ∀ d, dst = some d -> d ∉ o.looksAt ops) : ja8 (jba (putA env dst v)) o = ja8 (jba env) o := by
 have hx := jhf (env := env) (v := v) h
 obtain ⟨d0, op, type, pos, after, guard⟩ := o
 cases op <;> simp only [ja8] <;> simp only [Op.operands] at hx
 case load t a => rw [hx a (by simp)]
 case store t a x => rw [hx a (by simp), hx x (by simp)]
 case buildSlice t len parts => rw [List.map_congr_left fun p hm => hx p.2 (by simpa using ⟨p.1, Array.mem_toList_iff.1 hm⟩)]
 case indexAddr t x i => rw [hx x (by simp)]
 case convert s d x => rw [hx x (by simp)]
 case slice t x lo hi mx => rw [hx x (by simp)]
 case call c =>
  obtain ⟨callee, args, argTypes⟩ := c
  simp only []
  rw [List.map_congr_left fun x hm => hx x (by unfold Call.operands; exact Array.mem_append.2 (.inr (Array.mem_toList_iff.1 hm)))]
  congr 1
  cases callee with
  | value f =>
   show (jba (putA env dst v) f).names = (jba env f).names
   rw [hx f (by unfold Call.operands; exact Array.mem_append.2 (.inl (by simp)))]
  | _ => rfl

theorem jj0 {ops : Array Oper} {env : List AV} {dst : Option Tmp} {v : AV} {o : Oper} (h : ∀ d, dst = some d -> d ∉ o.looksAt ops) : jbq σ (jba (putA env dst v)) o = jbq σ (jba env) o := by
 unfold jbq xset
 rw [jnh h]
theorem jk0 {e : Operand -> AV} {o : Oper} (h : ∀ n ∈ ja8 e o, σ' n = σ n) : jbq σ' e o = jbq σ e o := by
 unfold jbq xset
 split
 ·rw [jkc h]
 ·rfl

end
end Go.Ab
