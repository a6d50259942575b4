/- My own layer: a row of a table is lent to a call: it is taken out ahead of it and put back behind it. -/
import Derived.Test.YtjahononbnbjnaaAbEx3b
namespace Go.Ab
set_option linter.unusedVariables false
set_option linter.unusedSimpArgs false
section
variable {P : Program} {cx : Cx} {κ : Kap} {F : Nat → Prop} {w : World} {U : Nat → Prop} {nm : Nat} {σ : Objs} {ty : TypeId → Option TyE} {Γ : Nat → Option FnSpec}

end

def lendX (ty : TypeId → Option TyE) (Γ : Nat → Option FnSpec) (n t : Nat) (dx : D) (l' : List D) (o : Oper) (h : Option H) (x : X) : Option (List Prop × X) :=
 match bif Nat.blt t n then lkA x.A t else .und with
 | .row ob g k j =>
  match tabAt (obo x.L) ob g with
  | some tv =>
   match tv.hole, maskAt tv.mask j with
   | none, some e' =>
    let x2 : X := ⟨(t, .own x.nx) :: x.A, (x.nx, some (.arr e' (rowD dx j).1 (rowD dx j).2)) :: (ob, some (.tab tv.e tv.es tv.mask tv.l g (some (k, j)))) :: x.L, x.nx + 16⟩
    match stepX ty Γ (obo x2.L) (evX n x2.A) x2.nx o h with
    | some (ps, av, δ) =>
     match obo (appX δ x2.L) x.nx, tabAt (obo (appX δ x2.L)) ob g with
     | some (.arr e2 es2 rows), some tw =>
      match tw.hole with
      | some (k2, j2) => bif Nat.beq e2 e' && Nat.beq j2 j && (match maskAt tw.mask j with | some e3 => Nat.beq e3 e' | none => false) && !Nat.beq x.nx ob && isNoG o && Nat.blt g x.nx && Nat.blt ob x.nx then
        some ((tv.l[k]? = some dx) :: (k2 = k) :: (tw.l[k]? = some dx) :: (tw.l.set k (setCell dx j (.sl es2 rows)) = l') :: ps,
         ⟨putX ((t, .own x.nx) :: x.A) o.dst av, (ob, some (.tab tw.e tw.es tw.mask l' g none)) :: (x.nx, none) :: appX δ x2.L, x.nx + 32⟩)
       else none
      | none => none
     | _, _ => none
    | none => none
   | _, _ => none
  | none => none
 | _ => none
 where
 isNoG (o : Oper) : Bool := match o.guard with | none => true | some _ => false
section
variable {P : Program} {cx : Cx} {ty : TypeId → Option TyE} {Γ : Nat → Option FnSpec} {Q : Exit → Act → World → Prop}
variable {Q : Exit → St → Prop}
def hsB (m : Nat) : List (Nat × H) → List (Nat × H) × List (Nat × H)
 | [] => ([], [])
 | q :: r => bif Nat.blt q.1 m then (q :: (hsB m r).1, (hsB m r).2) else ([], q :: r)
def ldX (ty : TypeId → Option TyE) (Γ : Nat → Option FnSpec) (k n : Nat) (l : List Oper) (m t : Nat) (dx : D) (l' : List D) (hs : List (Nat × H)) (x : X) : Option (List Prop × X) :=
 match exR (some k) chk0 ty Γ l n (l.take m) 0 (hsB m hs).1 x with
 | some (p1, x1) => match l.drop m with
  | o :: l2 => match lendX ty Γ n t dx l' o (popH m (hsB m hs).2).1 x1 with
   | some (p2, x2) => match exR (some k) chk0 ty Γ l n l2 (m + 1) (popH m (hsB m hs).2).2 x2 with
    | some (p3, x3) => some (p1 ++ (p2 ++ p3), x3)
    | none => none
   | none => none
  | [] => none
 | none => none
end
end Go.Ab
