/- My own layer: slices.Compact of ints, by the kit's proof over any program. -/
import Derived.Test.YtimecodbnhcnoaaGreatAbIns
import Derived.Shelf.Slices.CompactI
set_option linter.unusedVariables false
set_option linter.unusedSimpArgs false
namespace Go.Ab
set_option linter.unusedVariables false
set_option linter.unusedSimpArgs false
open Go.Shelf Go.RowKit Go.Lib Go.Proofs Go.Sort
variable{P:Program}{J:Inv}{ρ:Ren}

theorem jsu{F:Nat->Prop}{w:World}:∀{a:List Int}{us:List Value},RE F w 1 (a.map Enc.e) us->us=a.map (Value.int .i64)
 |[],us,h=>by
  unfold RE at h;simpa using h
 |x::a,us,h=>by
  rw[List.map_cons]at h;unfold RE at h;obtain⟨u,g,rfl,_,c,d⟩:=h;have f:∃y,u=[y]/\ one y=true/\ RD F w (.sc (.int .i64 x)) y:=c;obtain⟨y,rfl,_,b⟩:=f;unfold RD at b;obtain⟨rfl,_⟩:=b;rw[jsu d];rfl
theorem jsw{F:Nat->Prop}{w:World}:∀(a:List Int),RE F w 1 (a.map Enc.e) (a.map (Value.int .i64))
 |[]=>by unfold RE;rfl
 |x::a=>by
  rw[List.map_cons,List.map_cons];unfold RE;refine⟨[Value.int .i64 x],a.map (Value.int .i64),rfl,rfl,?_,jsw a⟩;show∃y,[Value.int .i64 x]=[y]/\ one y=true/\ RD F w (.sc (.int .i64 x)) y;refine⟨_,rfl,rfl,?_⟩;unfold RD;exact⟨rfl,rfl⟩

theorem jt5(L:Lays2.n20 P ρ)(w:World)(v0:Value)(a:List Int)(hE:Nat.ble (ρ.t 3) 4294967295=true)(h0:Own w (ρ.t 3) 1 v0 a.length (a.map (Value.int .i64))):
  Calls P (ρ.f 20) #[v0] w fun e w'=>∃A,e=.returned A/\ Own w' (ρ.t 3) 1 A (compactUpTo a.toArray a.length).length ((compactUpTo a.toArray a.length).map (Value.int .i64))/\ w.grownBy w' (blk v0)/\ blk A=blk v0:=by
 by_cases B:a=[]
 ·subst B;obtain⟨E,F,rfl⟩:=Own.slice h0;refine Calls.mono (Any.slices_Compact_int_empty L E F w) ?_;rintro e w' ⟨rfl,rfl⟩;exact⟨_,rfl,h0,⟨rfl,rfl,rfl,Nat.le_refl _,fun _ _ _=>rfl⟩,rfl⟩
 rcases h0.2 with⟨_,M⟩|⟨b,d,c,g,rfl,⟨tb,G,v,z⟩,y,p,n,m⟩
 ·exact absurd (List.length_eq_zero_iff.1 M) B
 obtain rfl:=z.low hE;rw[Nat.mul_one]at n m;have l:∀j,j<a.length->g[d+j]? =some (Value.int .i64 a.toArray[j]!):=fun j hj=>by
  have h:((g.toList.drop d).take a.length)[j]? =(a.map (Value.int .i64))[j]?:=by rw[m]
  rw[List.getElem?_take_of_lt hj,List.getElem?_drop,Array.getElem?_toList,List.getElem?_map]at h;rw[h,List.getElem?_eq_getElem hj];simp[hj]
 have I:Holds encI w b d a.toArray:=fun j hj=>⟨by rw[cell_of_row w b (d+j) g tb (0,0) v];exact l j (by simpa using hj),by simp[World.frozen?,v]⟩;have r:(compactUpTo a.toArray a.length).length<=a.length:=by
  unfold compactUpTo;rw[List.length_map];exact Nat.le_trans (List.length_filter_le ..) (by simp)
 have i:=Any.slices_Compact_int_arr L b d c a.toArray w I (by simp only[List.size_toArray];unfold maxLen at p;omega) (by simpa using y);simp only[List.size_toArray]at i;refine Calls.mono i ?_;rintro e w' ⟨rfl,q,rfl⟩;generalize hC:compactUpTo a.toArray a.length=C at r ⊢;generalize hD:(C++List.replicate (a.length-C.length) 0).toArray=D;have H:D.size=a.length:=by rw[<-hD];simp;omega
 have o:(putRow encI (Sort.ahead w q) b d D).heap[b]? =some (.cells (putCells encI d D g) tb (0,0)):=by
  show(w.heap.modify b (onCells (putCells encI d D)))[b]? =_;rw[Array.getElem?_modify,if_pos rfl,v];rfl
 refine⟨_,rfl,⟨by rw[List.length_map,Nat.mul_one],.inr ⟨b,d,c,putCells encI d D g,rfl,⟨tb,_,o,.inl rfl⟩,by omega,p,?_,?_⟩⟩,⟨rfl,rfl,rfl,?_,fun k _ K=>?_⟩,rfl⟩
 ·rw[Nat.mul_one];unfold putCells;rw[Array.size_mapIdx];exact n
 ·rw[Nat.mul_one];refine List.ext_getElem? fun j=>?_;rcases Nat.lt_or_ge j C.length with hj|hj
  ·rw[List.getElem?_take_of_lt hj,List.getElem?_drop,Array.getElem?_toList,List.getElem?_map];unfold putCells;rw[Array.getElem?_mapIdx,l j (by omega)];have x:d<=d+j/\ d+j<d+D.size:=by omega
   have u:D[j]? =some C[j]:=by rw[<-hD,List.getElem?_toArray,List.getElem?_append_left hj,List.getElem?_eq_getElem hj]
   have s:D[j]! =C[j]:=by simp[getElem!_def,u]
   simp only[Option.map_some,x,and_self,if_true,Nat.add_sub_cancel_left,s,List.getElem?_eq_getElem hj]
  ·rw[List.getElem?_eq_none (by rw[List.length_take];omega),List.getElem?_eq_none (by rw[List.length_map];exact hj)]
 ·show w.heap.size<=(w.heap.modify b _).size;rw[Array.size_modify];exact Nat.le_refl _
 ·show(w.heap.modify b _)[k]? =_;rw[Array.getElem?_modify,if_neg];intro h;subst h;exact K rfl

noncomputable def comM(a:List Int):Option (List Int):=some (compactUpTo a.toArray a.length)
noncomputable def comS(E:TypeId):MS (List Int) (List Int):=
 ⟨.m E,fun x=>comM x,fun _=>.own 0,fun y=>[arO E y],fun _ _=>[]⟩

theorem juy(hE:Nat.ble (ρ.t 3) 4294967295=true)(L:Lays2.n20 P ρ)(hc:∀args w,(callFunc (ρ.f 20) args).run P w=.ok (.enter (ρ.f 20) args) w):FnOK P J (ρ.f 20) (comS (ρ.t 3)).S:=by
 refine⟨hc,?_⟩;rintro vs w F ds obs κ ⟨a,y,rfl,rfl,p⟩ h j hJ g;have o:comM a=some y:=p;unfold comM at o
 ·cases o;have c:RVs κ F w [.own 0] vs:=h;unfold RVs at c;obtain⟨v0,A,rfl,q,c⟩:=c;unfold RVs at c;subst c;unfold RV at q;have l:=(g.ok 0 (arO (ρ.t 3) a) rfl).1;obtain⟨us,r,n,pos⟩:=(show jb7 F w (ρ.t 3) 1 (κ 0).v (a.map Enc.e) from l);rw[List.length_map]at r;have m:=jsu n;subst m;have k:∀b,blk (κ 0).v=some b->b<w.heap.size/\ ¬F b:=fun b d=>g.blk 0 (arO (ρ.t 3) a) rfl b (.inl d);have i:=jt5 L w (κ 0).v a hE r;rw[q.1];refine Calls.mono i ?_;rintro e w' ⟨z,rfl,s,u,x⟩;refine⟨z,rfl,jtf (v0:=(κ 0).v) (E:=ρ.t 3) (es:=1) (y:=(compactUpTo a.toArray a.length).map Enc.e) ⟨a,_,rfl,rfl,p,rfl,rfl,rfl⟩ j u (.inl x) (fun b d=>⟨⟨0,_,rfl,.inl d⟩,(k b d).2⟩) ?_ (jsw _) pos⟩;rw[List.length_map];exact s

theorem jvh{ty:TypeId->Option TyE}(T:TT P ty)(ρ:Ren)(hc:∀args w,(callFunc (ρ.f 20) args).run P w=.ok (.enter (ρ.f 20) args) w)(hF:P.funcs[ρ.f 20]? =some (Body2.n20 ρ)){b0:Nat}{e0:Bool}
  (c:TyOK P (ρ.t 0) ⟨.tuple #[],1,b0,.tuple #[],e0⟩) (g:ty (ρ.t 3)=some ⟨.int .i64,1,8,.int .i64 0,false⟩) (h:ty (ρ.t 4)=some ⟨.bool,1,1,.bool false,false⟩) (e:ty (ρ.t 22)=some ⟨.slice (ρ.t 3),1,24,.slice none 0 0,false⟩) (hE:Nat.ble (ρ.t 3) 4294967295=true:=by rfl):
  FnOK P J (ρ.f 20) (comS (ρ.t 3)).S:=by
 have b:=T.ty _ _ g;have d:=T.ty _ _ h;have a:=T.ty _ _ e;have m:=b;obtain⟨_,n,i,j,k,l,_⟩:=m;refine juy hE ⟨T.mx,hF,c.1,fun w=>jbm c,fun w=>jar c,fun w=>jcr c w,b.1,fun w=>jbm b,fun w=>jar b,fun w=>jcr b w,d.1,fun w=>jbm d,fun w=>jar d,fun w=>jcr d w,a.1,fun w=>jbm a,fun w=>jar a,fun w=>jcr a w,?_⟩ hc;rw[i,Option.map_some,j,k,l]
end Go.Ab
