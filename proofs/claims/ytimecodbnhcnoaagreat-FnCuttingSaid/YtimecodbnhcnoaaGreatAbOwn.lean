/- My own layer: the slice has its own memory, beginning anywhere in its block. No program in sight. -/
import Derived.Test.YtimecodbnhcnoaaGreatAbBase
import Derived.Laws.AppendOwnNone
namespace Go.Ab
set_option linter.unusedVariables false
set_option linter.unusedSimpArgs false

def FzOK(e n:Nat)(fz:Nat×Nat):Prop:=fz=(0,0) \/(4294967296<=e/\ n<=fz.1)
theorem FzOK.low{e n:Nat}{fz:Nat×Nat}(h:FzOK e n fz)(a:Nat.ble e 4294967295=true):fz=(0,0):=h.resolve_right fun h=>by have:=Nat.le_of_ble_eq_true a;omega
theorem FzOK.not{e n:Nat}{fz:Nat×Nat}(h:FzOK e n fz){j:Nat}(a:j<n):(decide (fz.1<=j)&&decide (j<fz.2))=false:=by
 rcases h with rfl|⟨_,h⟩
 ·simp
 ·simp;omega
def HBlk(w:World)(e:Nat)(g:Nat)(a:Array Value):Prop:=∃eb fz,w.heap[g]? =some (.cells a eb fz)/\ FzOK e a.size fz
theorem HBlk.keep{w w':World}{e g:Nat}{a:Array Value}(h:HBlk w e g a)(hb:w'.heap[g]? =w.heap[g]?):HBlk w' e g a:=by
 unfold HBlk;rw[hb];exact h
def Own(w:World)(e:TypeId)(size:Nat)(v:Value)(n:Nat)(xs:List Value):Prop:=
 xs.length=n*size/\
 ((v=.slice none 0 0/\ n=0) \/
 ∃g c a b,v=.slice (some ⟨g,c,none⟩) n a/\ HBlk w e g b/\ n<=a/\ a<=maxLen/\ c+a*size<=b.size/\ (b.toList.drop c).take (n*size)=xs)

section
variable{P:Program}{w:World}{e:TypeId}{size:Nat}{v:Value}{n:Nat}{xs:List Value}
theorem Own.of(h:w.ownsRow 0 e size v n xs):Own w e size v n xs:=by
 refine⟨h.1,?_⟩;rcases h.2 with h|⟨g,a,b,c,_,d,f,i,j,k⟩
 ·exact .inl h
 ·exact .inr ⟨g,0,a,b,c,⟨_,_,d,.inl rfl⟩,f,i,by rw[j,Nat.zero_add];exact Nat.le_refl _,by simpa using k⟩
theorem Own.nil(w:World)(e:TypeId)(size:Nat):Own w e size (.slice none 0 0) 0 []:=⟨by simp,.inl ⟨rfl,rfl⟩⟩
theorem Own.slice(h:Own w e size v n xs):∃a c,v=.slice a n c:=by
 rcases h.2 with⟨rfl,rfl⟩|⟨g,f,b,d,rfl,_⟩
 ·exact⟨_,_,rfl⟩
 ·exact⟨_,_,rfl⟩
theorem Own.cells(h:Own w e size v n xs){g b p f:Nat}(m:v=.slice (some ⟨g,b,none⟩) p f):∀j u,xs[j]? =some u->w.cell? ⟨g,b+j,none⟩=some u:=by
 intro j u d;rcases h.2 with⟨c,_⟩|⟨q,o,l,i,c,⟨eb,fz,k,_⟩,_,_,_,a⟩
 ·rw[m]at c;simp at c
 ·rw[m]at c;simp only[Value.slice.injEq,Option.some.injEq,Addr.mk.injEq,and_true]at c;obtain⟨⟨rfl,rfl⟩,_⟩:=c;rw[cell_of_row w g (b+j) i eb fz k];rw[<-a,List.getElem?_take]at d;split at d
  ·rw[List.getElem?_drop]at d;simpa using d
  ·cases d

theorem jcf(P:Program)(g o:Nat)(t:TypeId)(fz:Nat×Nat):∀(vs:List Value)(i:Nat)(a:Array Value)(w:World),w.heap[g]? =some (.cells a t fz)->(∀j,j<a.size->(decide (fz.1<=j)&&decide (j<fz.2))=false)->o+i+vs.length<=a.size->(∀v∈vs,v.oneCell'=true)->
  (storeCells ⟨g,o,none⟩ vs i).run P w=.ok () (w.setRow g (a.toList.take (o+i)++vs++a.toList.drop (o+i+vs.length)).toArray)
 |[],i,a,w,d,_,_,_=>by
  simp only[storeCells,List.append_nil,List.length_nil,Nat.add_zero,List.take_append_drop,Array.toArray_toList];rw[setRow_self w g a t fz d];rfl
 |v::b,i,a,w,d,p,k,m=>by
  have hi:o+i<a.size:=by simp at k;omega
  have f:(⟨g,o,none⟩:Addr).add i=⟨g,o+i,none⟩:=by unfold Addr.add;split<;>simp_all
  have c:w.cell? ⟨g,o+i,none⟩=some a[o+i]:=by simp[World.cell?,d,hi]
  have h:w.frozen? ⟨g,o+i,none⟩=false:=by unfold World.frozen?;rw[d];exact p _ hi
  have l:(store ((⟨g,o,none⟩:Addr).add i) v).run P w=.ok () (w.setRow g (a.setIfInBounds (o+i) v)):=by
   rw[f,run_store P w _ v _ (m v (by simp)),c];simp[h,setCell_eq_setRow w g (o+i) a t fz v d]
  have s:=jcf P g o t fz b (i+1) (a.setIfInBounds (o+i) v) (w.setRow g (a.setIfInBounds (o+i) v)) (setRow_heap w g a _ t _ d) (fun j q=>p j (by simpa using q)) (by simp at k ⊢;omega) (fun x r=>m x (by simp[r]));simp only[storeCells,Sem.run_bind,l,Result.andThen_ok,s,setRow_setRow];congr 3;have e:=list_seg_step a.toList (o+i) v b (by simp at k ⊢;omega);simpa[Array.toList_setIfInBounds,Nat.add_assoc]using e

theorem jfi(t ty e:TypeId)(i:TypeInfo)(z:P.underlying t=some (.slice e))(hi:P.info? e=some i)
  (g h d k:Nat) (f:Array Value) (eb:TypeId) (fz:Nat×Nat) (x:w.heap[g]? =some (.cells f eb fz)) (A:∀j,j<f.size->(decide (fz.1<=j)&&decide (j<fz.2))=false)
  (a:Addr) (m c:Nat) (b:List Value) (y:b.length=m*i.size) (l:∀j u,b[j]? =some u->w.cell? (a.add j)=some u) (r:∀u∈b,u.oneCell'=true)
  (o:d+m<=k) (p:h+d*i.size+b.length<=f.size):
  (Builtin.append_ #[t,t] ty #[.slice (some ⟨g,h,none⟩) d k,.slice (some a) m c]).run P w=
   .ok (.slice (some ⟨g,h,none⟩) (d+m) k) (w.setRow g (f.toList.take (h+d*i.size)++b++f.toList.drop (h+d*i.size+b.length)).toArray):=by
 have s:=run_firstCells_some (P:=P) w i.size m a m c b y l;have q:=jcf P g (h+d*i.size) eb fz b 0 f w x A (by simpa using p) r;simp only[Nat.add_zero]at q;simp[Builtin.append_,run_underlying z,sizeOf,typeInfo,hi,Builtin.lenOf,o,s,Addr.add_lit,q]

theorem jin(t B e:TypeId)(i:TypeInfo)(z:Value)(K:P.underlying t=some (.slice e))(hi:P.info? e=some i)(Y:i.zero=some z)
  (U:z.cells.size=i.size) (aa:0<i.size)
  (v:Value) (n:Nat) (xs:List Value) (f:Own w e i.size v n xs)
  (a:Option Addr) (m c:Nat) (H:a=none->m=0/\ c=0) (b:List Value) (C:b.length=m*i.size) (y:∀A,a=some A->∀j u,b[j]? =some u->w.cell? (A.add j)=some u) (h1:∀u∈b,u.oneCell'=true)
  (D:n+m<=maxLen) (p:(n+m)*i.bytes<=140737488355328):
  ∃L w',(Builtin.append_ #[t,t] B #[v,.slice a m c]).run P w=.ok L w'/\ Own w' e i.size L (n+m) (xs++b)/\ w.grownBy w' v.ownBlock/\
   (L.ownBlock=v.ownBlock \/L.ownBlock=some w.heap.size):=by
 have q:(xs++b).length=(n+m)*i.size:=by rw[List.length_append,f.1,C,Nat.add_mul]
 have x:∀(old:Nat),old<n+m->∀(row:Option Nat),
   Own (w.drew.alloc (.cells (xs.toArray++b.toArray++Builtin.zeroCells z.cells (grownCap w (n+m) old e-(n+m))) e)) e i.size
    (.slice (some ⟨w.heap.size,0,none⟩) (n+m) (grownCap w (n+m) old e)) (n+m) (xs++b)/\
   w.grownBy (w.drew.alloc (.cells (xs.toArray++b.toArray++Builtin.zeroCells z.cells (grownCap w (n+m) old e-(n+m))) e)) row:=by
  intro old ho row;have N:=grownCap_ge w (n+m) old e;have E:grownCap w (n+m) old e<=maxLen:=grownCap_le_maxLen w (n+m) old e D;refine⟨⟨q,.inr ⟨w.heap.size,0,_,_,rfl,⟨_,_,heap_alloc_new w.drew _,.inl rfl⟩,N,E,?_,?_⟩⟩,⟨rfl,rfl,rfl,by simp,fun k Q _=>Go.RowKit.Below.heap_alloc w.drew _ k Q⟩⟩
  ·simp only[Array.size_append,List.size_toArray,size_zeroCells,U,f.1,C,<-Nat.add_mul,Nat.zero_add];exact Nat.mul_le_mul_right _ (by omega)
  ·simp only[Array.toList_append,List.append_assoc,List.drop_zero];rw[<-List.append_assoc,<-q];exact List.take_left
 rcases f.2 with⟨rfl,rfl⟩|⟨g,d,l,h,rfl,⟨eb,fz,W,T⟩,S,E,M,G⟩
 ·have hx:xs=[]:=List.eq_nil_of_length_eq_zero (by simpa using f.1);subst hx;by_cases X:m=0
  ·subst X;have R:b=[]:=List.eq_nil_of_length_eq_zero (by simpa using C);subst R;refine⟨.slice none 0 0,w,?_,Own.nil w e i.size,⟨rfl,rfl,rfl,Nat.le_refl _,fun _ _ _=>rfl⟩,.inl rfl⟩;cases a<;>simp[Builtin.append_,run_underlying K,sizeOf,typeInfo,hi,Builtin.lenOf,Builtin.firstCells,loadCells,loadCellsFrom]
  ·cases a with
   |none=>exact absurd (H rfl).1 X
   |some A=>
    have J:=run_append_nil (P:=P) w t B e i z K hi Y A m c b C (y A rfl) (by omega) (by simp only[maxLen]at D;omega) (by have hb:=p;simp only[Nat.zero_add]at hb;omega);have s:=x 0 (by omega) (Value.ownBlock (.slice none 0 0));simp only[Nat.zero_add,List.nil_append,Array.empty_append]at s ⊢;exact⟨_,_,J,s.1,s.2,.inr rfl⟩
 ·cases a with
  |none=>
   obtain⟨rfl,rfl⟩:=H rfl;have R:b=[]:=List.eq_nil_of_length_eq_zero (by simpa using C);subst R;refine⟨_,w,?_,by simpa using f,⟨rfl,rfl,rfl,Nat.le_refl _,fun _ _ _=>rfl⟩,.inl rfl⟩;simp[Builtin.append_,run_underlying K,sizeOf,typeInfo,hi,Builtin.lenOf,Builtin.firstCells,S,storeCells]
  |some A=>
   have r:=y A rfl;by_cases o:n+m<=l
   ·have I:d+n*i.size+b.length<=h.size:=by
     have:=Nat.mul_le_mul_right i.size o;rw[C,Nat.add_assoc,<-Nat.add_mul];omega
    have J:=jfi (P:=P) t B e i K hi g d n l h eb fz W (fun _ O=>T.not O) A m c b C r h1 o I;refine⟨_,_,J,⟨q,.inr ⟨g,d,l,_,rfl,⟨_,_,setRow_heap w g h _ eb _ W,by rwa [show(List.toArray (h.toList.take (d+n*i.size)++b++h.toList.drop (d+n*i.size+b.length))).size=h.size by simp only[List.size_toArray,List.length_append,List.length_take,List.length_drop,Array.length_toList];omega]⟩,o,E,?_,?_⟩⟩,⟨rfl,rfl,rfl,by simp,fun k _ Q=>setRow_other w g k _ (fun e=>Q (by simp[Value.ownBlock,e]))⟩,.inl rfl⟩
    ·simp only[List.size_toArray,List.length_append,List.length_take,List.length_drop,Array.length_toList];omega
    ·have hc:d+l*i.size<=h.toList.length:=by rw[Array.length_toList];exact M
     have Z:h.toList.take (d+n*i.size)=h.toList.take d++xs:=by rw[List.take_add,G]
     have V:(h.toList.take d).length=d:=by rw[List.length_take];omega
     rw[List.toList_toArray,Z,List.append_assoc,List.append_assoc,List.drop_append_of_le_length (Nat.le_of_eq V.symm),List.drop_of_length_le (Nat.le_of_eq V),List.nil_append,<-List.append_assoc,<-q];exact List.take_left
   ·have F:∀j u,xs[j]? =some u->w.cell? ((⟨g,d,none⟩:Addr).add j)=some u:=fun j u O=>by
     rw[Addr.add_lit];exact f.cells rfl j u O
    have J:=run_append_grow (P:=P) w t B e i z K hi Y ⟨g,d,none⟩ n l xs f.1 F A m c b C r (by omega) (by simp only[maxLen]at D;omega) (growslice_fits (by omega) p);have s:=x l (by omega) (Value.ownBlock (.slice (some ⟨g,d,none⟩) n l));exact⟨_,_,J,s.1,s.2,.inr rfl⟩
theorem Own.cut(h:Own w e size v n xs){a:Option Addr}{b l m:Nat}(y:v=.slice a n b)(o:l<=m)(x:m<=n):
  Own w e size (.slice (if b=l then a else a.map (·.add (l*size))) (m-l) (b-l)) (m-l) ((xs.take (m*size)).drop (l*size))/\ (Value.slice (if b=l then a else a.map (·.add (l*size))) (m-l) (b-l)).ownBlock=v.ownBlock:=by
 subst y;have z:=Nat.mul_le_mul_right size o;have s:=Nat.mul_le_mul_right size x;have c:((xs.take (m*size)).drop (l*size)).length=(m-l)*size:=by rw[List.length_drop,List.length_take,h.1,Nat.sub_mul];omega
 rcases h.2 with⟨f,j⟩|⟨g,i,r,d,f,j,t,C,D,u⟩
 ·simp only[Value.slice.injEq]at f;obtain⟨rfl,rfl,rfl⟩:=f;have k:l=0:=by omega
  have p:m=0:=by omega
  subst k;subst p;exact⟨⟨c,.inl ⟨by simp,rfl⟩⟩,by simp⟩
 ·simp only[Value.slice.injEq]at f;obtain⟨rfl,_,rfl⟩:=f;have A:=Nat.mul_le_mul_right size t;by_cases hc:b=l
  ·have q:m=l:=by omega
   subst q;refine⟨⟨c,.inr ⟨g,i,_,d,by rw[if_pos hc],j,by omega,by omega,by rw[hc];simp;omega,?_⟩⟩,by rw[if_pos hc];rfl⟩;rw[Nat.sub_self,Nat.zero_mul,List.take_zero];exact(List.eq_nil_of_length_eq_zero (by rw[c];simp)).symm
  ·have B:=Nat.mul_le_mul_right size (show l<=b by omega);refine⟨⟨c,.inr ⟨g,i+l*size,_,d,by rw[if_neg hc,Option.map_some,Addr.add_lit],j,by omega,by omega,by rw[Nat.sub_mul];omega,?_⟩⟩,by rw[if_neg hc,Option.map_some,Addr.add_lit];rfl⟩;rw[<-u,List.take_take,Nat.min_eq_left s,<-List.drop_drop,Nat.sub_mul,List.drop_take]
end
end Go.Ab
