/- My own layer: slices.Insert(s, i, v..) at elements of any size, walked once for every program and every numbering. -/
import Derived.Test.YtimecodbnhcnoaaGreatAbC0
import Derived.Shelf.Spec.SlicesInsertGrow
import Derived.Deep.WholeRow
set_option linter.unusedVariables false
set_option linter.unusedSimpArgs false
namespace Go.Ab
set_option linter.unusedVariables false
set_option linter.unusedSimpArgs false
open Go.Shelf Go.RowKit Go.Lib Go.Proofs
variable{P:Program}{J:Inv}{ρ:Ren}

set_option maxHeartbeats 4000000 in
set_option maxRecDepth 100000 in
set_option maxHeartbeats 4000000 in
set_option maxRecDepth 100000 in
set_option maxHeartbeats 4000000 in
set_option maxRecDepth 100000 in
theorem jtf{S:FnSpec}{ds:List D}{obs:List Obj'}{κ:Kap}{F:Nat->Prop}{w w':World}{v0 f:Value}{E:TypeId}{es:Nat}{y:List D}{xs:List Value}(d:S.post ds obs (.own 0) [.arr E es y] [])
  (k:∀b,F b->b<w.heap.size) (g:w.grownBy w' (blk v0)) (hb:blk f=blk v0 \/blk f=some w.heap.size) (m:∀b,blk v0=some b->Lent κ obs b/\ ¬F b)
  (c:Own w' E es f y.length xs) (o:RE F w' es y xs) (pos:0<es):
  ∃r new obs' κ' κl F',Ret S ds obs κ F w f w' r new obs' κ' κl F':=by
 obtain⟨a',s,p⟩:=c.slice;refine⟨.own 0,[.arr E es y],[],fun _=>⟨f,fun _ _=>undef⟩,fun _=>⟨f,fun _ _=>undef⟩,F,?_⟩;refine⟨d,fun _ h=>h,fun _ h=>.inl h,fun b hb=>Nat.lt_of_lt_of_le (k b hb) g.size,⟨g.os,g.tape,g.output,g.size,fun b hb=>g.block b hb.1 fun e=>hb.2 (m b e.symm).1⟩,?_,?_,?_,⟨?_,?_,?_⟩,⟨?_,?_,?_⟩,fun _ _=>rfl,?_⟩
 ·unfold RV;exact⟨rfl,by rw[p];rfl⟩
 ·unfold NB;simp
 ·intro i x j y l;simp at l
 ·intro j x a;rcases j with _|j
  ·simp only[List.getElem?_cons_zero,Option.some.injEq]at a;subst a;exact⟨⟨_,c,o,pos⟩,trivial⟩
  ·simp at a
 ·intro j x a b hbk;rcases j with _|j
  ·simp only[List.getElem?_cons_zero,Option.some.injEq]at a;subst a;rcases hbk with hbk|hbk
   ·have hbk:blk f=some b:=hbk;rcases hb with g3|g3
    ·rw[g3]at hbk;exact⟨.inl (m b hbk).1,(m b hbk).2⟩
    ·rw[g3]at hbk;cases hbk;exact⟨.inr (Nat.le_refl _),fun hF=>absurd (k _ hF) (Nat.lt_irrefl _)⟩
   ·exact hbk.elim
  ·simp at a
 ·intro i x j y l q n;rcases i with _|i
  ·rcases j with _|j
   ·exact absurd rfl n
   ·simp at q
  ·simp at l
 ·intro j x a;simp at a
 ·intro j x a;simp at a
 ·intro i x j y l;simp at l
 ·intro j a;simp at a

theorem jcr{t:TypeId}{x:TyE}(h:TyOK P t x)(w:World):(zeroValue t).run P w=.ok x.zero w:=by
 obtain⟨_,i,a,_,_,b,_⟩:=h;simp[zeroValue,typeInfo,a,b]

end Go.Ab
