/- My own layer, some of its parts together. -/
import Derived.WalkKit
import Derived.Orders
import Derived.Laws.AppendOwnNone
import Derived.Deep.LoopGhost
import Derived.Laws.StructEq
import Derived.Laws.BytesString
import Derived.Laws.IdiomStrings
import Derived.MapKept
set_option linter.unusedVariables false
set_option linter.unusedSimpArgs false
namespace Go.Ab
section
abbrev bF:=@Option.bind_some
abbrev bT:=@List.mem_of_getElem?
abbrev bU:=@Option.some.injEq
abbrev bW:=@Bool.false_eq_true
abbrev cK:=@List.getElem?_eq_some_iff
abbrev dD:=@List.getD_eq_getElem?_getD
abbrev dQ:=@Nat.le_refl
abbrev dU:=@List.mem_cons_self
abbrev dX:=@List.map_cons
abbrev dY:=@List.mem_cons
abbrev dZ:=@List.mem_cons_of_mem
abbrev eF:=@List.length_take
abbrev eG:=@Nat.eq_of_beq_eq_true
abbrev eU:=@List.append_assoc
abbrev eY:=@Prod.mk.injEq
abbrev fA:=@List.mem_append
abbrev fO:=@List.getElem?_eq_getElem
abbrev fP:=@Bool.and_eq_true
abbrev fT:=@Bool.not_true
abbrev gu:=@List.length_append
abbrev gH:=@List.length_set
abbrev gI:=@Int.toNat_natCast
abbrev gT:=@Option.some.inj
abbrev gW:=@Option.map_some
abbrev gY:=@List.length_drop
abbrev gZ:=@List.length_cons
abbrev ig:=@List.cons.injEq
abbrev iw:=@List.take_of_length_le
abbrev iy:=@List.length_map
abbrev iA:=@List.all_eq_true
abbrev iD:=@Nat.add_mul
abbrev iF:=@Array.length_toList
abbrev iI:=@List.mem_append_left
abbrev iN:=@List.getElem?_set_ne
abbrev iQ:=@Nat.le_of_ble_eq_true
abbrev iR:=@List.mem_singleton
abbrev iW:=@Nat.blt_eq
abbrev iX:=@List.getElem?_drop
abbrev jo:=@List.mem_range
abbrev jv:=@List.map_nil
abbrev jC:=@Nat.lt_or_ge
abbrev jD:=@List.nil_append
abbrev jE:=@List.mem_map
abbrev jJ:=@List.getElem?_of_mem
abbrev jK:=@List.getElem?_append_left
abbrev jW:=@List.nodup_cons
abbrev jX:=@List.mem_append_right
abbrev j4:=@Nat.zero_add
abbrev j5:=@Nat.add_assoc
abbrev j6:=@List.getElem?_set_self
abbrev kg:=@List.getElem?_append_right
abbrev kG:=@Option.map_eq_some_iff
abbrev kH:=@Nat.lt_of_lt_of_le
abbrev kI:=@List.not_mem_nil
abbrev kJ:=@List.nodup_append
abbrev kK:=@List.length_eq_zero_iff
abbrev kL:=@List.getElem?_take_of_lt
abbrev kR:=@Int.le_refl
abbrev kS:=@Bool.not_false
abbrev lu:=@List.getElem?_map
abbrev lC:=@List.getElem?_eq_none
abbrev lD:=@List.cons_append
abbrev lN:=@Nat.add_zero
abbrev lQ:=@List.length_singleton
abbrev l8:=@Nat.mul_le_mul_right
abbrev l9:=@List.take_append_drop
abbrev mh:=@List.mem_flatten
abbrev mo:=@List.length_range
abbrev mq:=@List.length_nil
abbrev mD:=@List.append_nil
abbrev mF:=@Bool.or_eq_true
abbrev mM:=@List.getElem?_cons_zero
abbrev mO:=@Bool.not_eq_true'
abbrev nG:=@Nat.two_pow_pos
abbrev nH:=@Nat.one_mul
abbrev nI:=@List.getElem?_take
abbrev nJ:=@List.flatten_append
abbrev nL:=@Array.getD_eq_getD_getElem?
abbrev ow:=@Nat.sub_self
abbrev oz:=@Nat.mul_one
abbrev oC:=@List.take_zero
abbrev oD:=@List.map_append
abbrev o8:=@Nat.zero_mul
abbrev o9:=@Nat.zero_le
abbrev pq:=@Nat.pow_le_pow_right
abbrev pz:=@Nat.le_trans
abbrev pF:=@Nat.add_sub_cancel_left
abbrev pG:=@List.size_toArray
abbrev pI:=@List.getElem?_range
abbrev qw:=@Nat.le_of_not_lt
abbrev qx:=@List.mem_filterMap
abbrev qy:=@List.flatMap_cons
abbrev qz:=@Bool.or_eq_false_iff
abbrev qA:=@Array.ext'
abbrev rA:=@Option.map_none
abbrev rC:=@Option.getD_some
abbrev rD:=@List.take_length
abbrev rE:=@List.mem_of_mem_take
abbrev rF:=@List.mem_flatMap
abbrev rG:=@List.map_toArray
abbrev rH:=@List.filterMap_cons_none
abbrev rJ:=@List.ext_getElem?
abbrev rM:=@List.eq_nil_of_length_eq_zero
abbrev rQ:=@Classical.byContradiction
abbrev rR:=@Bool.eq_false_iff
abbrev rU:=@Array.mem_toList_iff
abbrev tV:=@Nat.min_eq_left
abbrev tY:=@List.singleton_append
abbrev tZ:=@List.mem_or_eq_of_mem_set
abbrev uf:=@List.map_map
abbrev ug:=@List.map_congr_left
abbrev uh:=@List.getElem?_toArray
abbrev uj:=@List.drop_zero
abbrev um:=@List.drop_eq_getElem_cons
abbrev uo:=@List.any_eq_true
abbrev vU:=@List.flatten_cons
abbrev vW:=@Int.emod_eq_of_lt
abbrev vY:=@Array.mem_append
abbrev xQ:=@Option.any_some
abbrev xR:=@Nat.testBit_or
abbrev xS:=@Nat.pow_lt_pow_right
abbrev xU:=@Nat.add_comm
abbrev xV:=@List.set_cons_zero
abbrev xW:=@List.length_replicate
abbrev xX:=@List.contains_iff_mem
abbrev xZ:=@Bool.false_or
abbrev Aj:=@Nat.testBit_two_pow
abbrev Ak:=@Nat.or_lt_two_pow
abbrev Al:=@Nat.lt_trichotomy
abbrev Am:=@Nat.lt_succ_self
abbrev Ao:=@List.take_succ_cons
abbrev Ap:=@List.take_left
abbrev Aq:=@List.sum_cons
abbrev Ar:=@List.set_eq_of_length_le
abbrev Au:=@List.pairwise_iff_getElem
abbrev Av:=@List.map_inj_right
abbrev Aw:=@List.length_pos_iff
abbrev Ay:=@List.getElem?_replicate
abbrev Az:=@List.flatMap_append
abbrev AA:=@List.filterMap_cons_some
abbrev AB:=@List.drop_drop
abbrev AJ:=@List.drop_append_of_le_length
abbrev AL:=@List.append_of_mem
abbrev AQ:=@Array.getElem?_eq_none
abbrev DV:=@Option.isSome_iff_exists
abbrev DW:=@Nat.mul_le_mul_left
abbrev DX:=@Nat.mod_eq_of_lt
abbrev DY:=@Nat.add_sub_cancel
abbrev DZ:=@List.set_append_right
abbrev D5:=@List.pairwise_flatten
abbrev D6:=@List.pairwise_append
abbrev D7:=@List.mem_filter
abbrev D8:=@List.getElem?_set
abbrev D9:=@List.getElem?_cons_succ
abbrev Ea:=@List.findIdx?_eq_none_iff
abbrev Eb:=@List.drop_eq_nil_of_le
abbrev Ec:=@List.dropLast_concat_getLast
abbrev Ed:=@Int.natCast_pow
abbrev Ee:=@Int.natCast_mul
abbrev Ef:=@Classical.not_not
abbrev Eh:=@Array.getElem?_toList
abbrev JY:=@Nat.testBit_lt_two_pow
abbrev JZ:=@List.drop_of_length_le
abbrev J2:=@Int.tdiv_eq_ediv_of_nonneg
abbrev J3:=@Array.toList_setIfInBounds

inductive D where
 |sc (v:Value)
 |sl (es:Nat) (l:List D)
 |agg (l:List D)

def D.cells:D->List D
 | .agg l=>l
 |d=>[d]

def one:Value->Bool
 | .agg _| .tuple _=>false
 |_=>true

mutual
def RD(F:Nat->Prop)(w:World):D->Value->Prop
 | .sc u,v=>v=u/\ one u=true
 | .sl es l,v=>∃a c,v=.slice a l.length c/\ l.length<=c/\ c<=maxLen/\ (a=none->c=0)/\ (l=[] \/∃b d us,a=some ⟨b,d,none⟩/\ F b/\ us.length=l.length*es/\
   (∀j u,us[j]? =some u->w.cell? ⟨b,d+j,none⟩=some u)/\ RE F w es l us)
 | .agg l,v=>∃cs:List Value,v=.agg cs.toArray/\ RC F w l cs
def RC(F:Nat->Prop)(w:World):List D->List Value->Prop
 |[],us=>us=[]
 |d::ds,us=>∃u a,us=u::a/\ one u=true/\ RD F w d u/\ RC F w ds a
def RE(F:Nat->Prop)(w:World)(es:Nat):List D->List Value->Prop
 |[],us=>us=[]
 |d::ds,us=>∃u a,us=u++a/\ u.length=es/\ (match d with| .agg c=>RC F w c u|d=>∃x,u=[x]/\ one x=true/\ RD F w d x)/\ RE F w es ds a
end

structure Wx(K:Nat->Prop)(w w':World):Prop where
 os:w'.os=w.os
 tape:w'.tape=w.tape
 output:w'.output=w.output
 size:w.heap.size<=w'.heap.size
 block:∀k,K k->w'.heap[k]? =w.heap[k]?

theorem Wx.refl(K:Nat->Prop)(w:World):Wx K w w:=⟨rfl,rfl,rfl,dQ _,fun _ _=>rfl⟩
theorem Wx.trans{K f:Nat->Prop}{a b c:World}(h:Wx K a b)(d:Wx f b c)(g:∀b,K b->f b):Wx K a c:=
 ⟨d.os.trans h.os,d.tape.trans h.tape,d.output.trans h.output,pz h.size d.size,fun k e=>(d.block k (g k e)).trans (h.block k e)⟩
theorem Wx.mono{K d:Nat->Prop}{a b:World}(h:Wx K a b)(e:∀b,d b->K b):Wx d a b:=
 ⟨h.os,h.tape,h.output,h.size,fun k c=>h.block k (e k c)⟩

mutual
theorem RD.mono{F F':Nat->Prop}{w w':World}(hF:∀b,F b->F' b)(hb:∀b,F b->w'.heap[b]? =w.heap[b]?):∀{d:D}{v:Value},RD F w d v->RD F' w' d v
 | .sc _,_,h=>by unfold RD at h ⊢;exact h
 | .sl es l,v,h=>by
  unfold RD at h ⊢;obtain⟨a,c,e,f,n,g,i⟩:=h;refine⟨a,c,e,f,n,g,?_⟩;rcases i with i|⟨b,k,us,o,m,r,hc,p⟩
  ·exact .inl i
  ·exact .inr ⟨b,k,us,o,hF b m,r,fun j u q=>(World.cell?_of_block (hb b m)).trans (hc j u q),RE.mono hF hb p⟩
 | .agg l,v,h=>by
  unfold RD at h ⊢;obtain⟨cs,e,f⟩:=h;exact⟨cs,e,RC.mono hF hb f⟩
theorem RC.mono{F F':Nat->Prop}{w w':World}(hF:∀b,F b->F' b)(hb:∀b,F b->w'.heap[b]? =w.heap[b]?):∀{l:List D}{us:List Value},RC F w l us->RC F' w' l us
 |[],_,h=>by unfold RC at h ⊢;exact h
 |d::ds,us,h=>by
  unfold RC at h ⊢;obtain⟨u,a,c,e,f,g⟩:=h;exact⟨u,a,c,e,RD.mono hF hb f,RC.mono hF hb g⟩
theorem RE.mono{F F':Nat->Prop}{w w':World}(hF:∀b,F b->F' b)(hb:∀b,F b->w'.heap[b]? =w.heap[b]?){es:Nat}:∀{l:List D}{us:List Value},RE F w es l us->RE F' w' es l us
 |[],_,h=>by unfold RE at h ⊢;exact h
 | .agg c::ds,us,h=>by
  unfold RE at h ⊢;obtain⟨u,a,d,e,f,g⟩:=h;exact⟨u,a,d,e,RC.mono hF hb f,RE.mono hF hb g⟩
 | .sc c::ds,us,h=>by
  unfold RE at h ⊢;obtain⟨u,a,d,e,⟨x,f,g,i⟩,j⟩:=h;exact⟨u,a,d,e,⟨x,f,g,RD.mono hF hb i⟩,RE.mono hF hb j⟩
 | .sl es' c::ds,us,h=>by
  unfold RE at h ⊢;obtain⟨u,a,d,e,⟨x,f,g,i⟩,j⟩:=h;exact⟨u,a,d,e,⟨x,f,g,RD.mono hF hb i⟩,RE.mono hF hb j⟩
end

theorem RE.cons{F:Nat->Prop}{w:World}{es:Nat}{d:D}{ds:List D}{us:List Value}(h:RE F w es (d::ds) us):
  ∃u a,us=u++a/\ u.length=es/\ RC F w d.cells u/\ RE F w es ds a:=by
 cases d with
 |agg c=>
  unfold RE at h;obtain⟨u,a,b,f,g,i⟩:=h;exact⟨u,a,b,f,g,i⟩
 |sc c=>
  unfold RE at h;obtain⟨u,a,b,f,⟨x,g,i,j⟩,k⟩:=h;exact⟨u,a,b,f,by subst g;unfold D.cells;unfold RC;exact⟨x,[],rfl,i,j,by unfold RC;rfl⟩,k⟩
 |sl e c=>
  unfold RE at h;obtain⟨u,a,b,f,⟨x,g,i,j⟩,k⟩:=h;exact⟨u,a,b,f,by subst g;unfold D.cells;unfold RC;exact⟨x,[],rfl,i,j,by unfold RC;rfl⟩,k⟩

theorem RE.mk{F:Nat->Prop}{w:World}{es:Nat}{d:D}{ds:List D}{u us:List Value}(j:u.length=es)(h:RC F w d.cells u)(b:RE F w es ds us):RE F w es (d::ds) (u++us):=by
 cases d with
 |agg c=>unfold RE;exact⟨u,us,rfl,j,h,b⟩
 |sc c=>
  unfold D.cells at h;unfold RC at h;obtain⟨x,k,f,g,i,a⟩:=h;unfold RC at a;subst a;unfold RE;exact⟨u,us,rfl,j,⟨x,f,g,i⟩,b⟩
 |sl e c=>
  unfold D.cells at h;unfold RC at h;obtain⟨x,k,f,g,i,a⟩:=h;unfold RC at a;subst a;unfold RE;exact⟨u,us,rfl,j,⟨x,f,g,i⟩,b⟩

theorem RE.length{F:Nat->Prop}{w:World}{es:Nat}:∀{l:List D}{us:List Value},RE F w es l us->us.length=l.length*es
 |[],us,h=>by unfold RE at h;subst h;simp
 |d::ds,us,h=>by
  obtain⟨u,e,a,b,_,c⟩:=h.cons;have:=RE.length c;subst a;simp only[gu,gZ,iD,b,this];omega

theorem RC.length{F:Nat->Prop}{w:World}:∀{l:List D}{us:List Value},RC F w l us->us.length=l.length
 |[],us,h=>by unfold RC at h;subst h;rfl
 |d::ds,us,h=>by
  unfold RC at h;obtain⟨u,b,rfl,_,_,a⟩:=h;simp[RC.length a]

theorem RE.app{F:Nat->Prop}{w:World}{es:Nat}:∀{l l':List D}{us a:List Value},RE F w es l us->RE F w es l' a->RE F w es (l++l') (us++a)
 |[],_,us,_,h,b=>by unfold RE at h;subst h;exact b
 |d::ds,l',us,a,h,b=>by
  obtain⟨u,i,c,e,f,g⟩:=h.cons;subst c;rw[eU,lD];exact RE.mk e f (RE.app g b)

theorem RE.at{F:Nat->Prop}{w:World}{es:Nat}:∀{l:List D}{us:List Value}(k:Nat)(d:D),RE F w es l us->l[k]? =some d->
  RC F w d.cells ((us.drop (k*es)).take es)/\ ((us.drop (k*es)).take es).length=es
 |[],_,k,d,_,a=>by simp at a
 |d0::ds,us,0,d,h,a=>by
  obtain⟨u,f,b,c,g,i⟩:=h.cons;simp at a;subst a;subst b;subst c;simp[g]
 |d0::ds,us,k+1,d,h,a=>by
  obtain⟨u,f,b,c,g,i⟩:=h.cons;have:=RE.at (l:=ds) k d i (by simpa using a);subst b;have e:(k+1)*es=u.length+k*es:=by rw[iD,c];omega
  rw[e,<-AB,List.drop_left];exact this

theorem RE.set{F:Nat->Prop}{w:World}{es:Nat}:∀{l:List D}{us:List Value}(k:Nat)(d:D)(u:List Value),RE F w es l us->k<l.length->RC F w d.cells u->u.length=es->
  RE F w es (l.set k d) (us.take (k*es)++u++us.drop (k*es+es))
 |[],_,k,_,_,_,c,_,_=>by simp at c
 |d0::ds,us,0,d,u,h,c,hc,j=>by
  obtain⟨f,a,g,b,m,i⟩:=h.cons;subst g;have e:(f++a).drop (0*es+es)=a:=by rw[o8,j4,<-b,List.drop_left]
  rw[e];simp only[o8,oC,jD,xV];exact RE.mk j hc i
 |d0::ds,us,k+1,d,u,h,c,hc,j=>by
  obtain⟨f,a,g,b,m,i⟩:=h.cons;have n:=RE.set (l:=ds) k d u i (by simpa using c) hc j;subst g;have e:(k+1)*es=f.length+k*es:=by rw[iD,b];omega
  have o:(k+1)*es+es=f.length+(k*es+es):=by omega
  rw[o,e,List.take_length_add_append,List.drop_length_add_append,eU,eU,List.set_cons_succ];rw[eU]at n;exact RE.mk b m n

inductive AV where
 |dat (d:D)
 |own (o:Nat)                    -- the slice over the whole of object 'o' (an array of the call's own)
 |ref (o:Nat) (i:Nat)          -- a pointer to cell i of object 'o'
 |eref (o:Nat) (es k j:Nat)    -- a pointer to cell j of element k of the array 'o'
 |row (o g k j:Nat)              -- the slice in cell j of element k of the table 'o', whose rows lie bZ 'g' says
 |fH (o g k j es i c:Nat)      -- a pointer to cell c of element i of that row
 |vw (o g k j es lo n:Nat)       -- a part of that row: n elements from lo on
 |fp (l:List D)                  -- a pointer into frozen memory: the cells from there on
 |aggv (l:List AV)
 |tup (l:List AV)
 |fn (f:Nat) (l:List AV)
 |und
 |unk

inductive bH where
 |box (T:TypeId) (l:List AV)
 |arr (e:TypeId) (es:Nat) (l:List D)
 |gF (T E:TypeId) (l:List UInt8) (g:Nat)
 |mp (t:TypeId) (l:List ((Int×Int)×D))
 |tab (e:TypeId) (es:Nat) (mask:List (Option TypeId)) (l:List D) (g:Nat) (hole:Option (Nat×Nat))

structure KV where
 v:Value
 r:Nat->Nat->Value
instance:Coe KV Value:=⟨KV.v⟩
abbrev dx:=Nat->KV

mutual
def RV(κ:dx)(F:Nat->Prop)(w:World):AV->Value->Prop
 | .dat d,v=>RD F w d v
 | .own o,v=>v=(κ o).v/\ one v=true
 | .ref o i,v=>∃b,(κ o).v=.pointer (some ⟨b,0,none⟩)/\ v=.pointer (some ⟨b,i,none⟩)
 | .eref o es k j,v=>∃b f n e,(κ o).v=.slice (some ⟨b,f,none⟩) n e/\ v=.pointer (some ⟨b,f+(k*es+j),none⟩)
 | .row _ g k j,v=>v=(κ g).r k j/\ one v=true
 | .fH _ g k j es i c,v=>∃b f n e,(κ g).r k j=.slice (some ⟨b,f,none⟩) n e/\ v=.pointer (some ⟨b,f+(i*es+c),none⟩)
 | .vw _ g k j es lo n,v=>∃a m e,(κ g).r k j=.slice a m e/\ m<=e/\ lo+n<=m/\ (n=0 \/∃b f,a=some ⟨b,f,none⟩)/\ v=.slice (if e=lo then a else a.map (·.add (lo*es))) n (e-lo)
 | .fp ds,v=>∃b h us,v=.pointer (some ⟨b,h,none⟩)/\ F b/\ (∀j u,us[j]? =some u->w.cell? ⟨b,h+j,none⟩=some u)/\ RC F w ds us
 | .aggv l,v=>∃cs:List Value,v=.agg cs.toArray/\ bQ κ F w l cs
 | .tup l,v=>∃cs:List Value,v=.tuple cs.toArray/\ dz κ F w l cs
 | .fn f l,v=>∃cs:List Value,v=.func (.func f) #[] cs.toArray/\ dz κ F w l cs
 | .und,v=>v=undef
 | .unk,_=>True
def dz(κ:dx)(F:Nat->Prop)(w:World):List AV->List Value->Prop
 |[],us=>us=[]
 |d::ds,us=>∃u a,us=u::a/\ RV κ F w d u/\ dz κ F w ds a
def bQ(κ:dx)(F:Nat->Prop)(w:World):List AV->List Value->Prop
 |[],us=>us=[]
 |d::ds,us=>∃u a,us=u::a/\ one u=true/\ RV κ F w d u/\ bQ κ F w ds a
end

mutual
def NB(U:Nat->Prop):AV->Prop
 | .own o| .ref o _| .eref o _ _ _=>U o
 | .row o g _ _| .fH o g _ _ _ _ _| .vw o g _ _ _ _ _=>U o/\ U g
 | .aggv l| .tup l| .fn _ l=>bN U l
 |_=>True
def bN(U:Nat->Prop):List AV->Prop
 |[]=>True
 |x::l=>NB U x/\ bN U l
end

mutual
theorem NB.mono{U U':Nat->Prop}(h:∀o,U o->U' o):∀{x:AV},NB U x->NB U' x
 | .dat _,a=>by unfold NB;trivial
 | .own o,a=>by unfold NB at a ⊢;exact h o a
 | .ref o _,a=>by unfold NB at a ⊢;exact h o a
 | .eref o _ _ _,a=>by unfold NB at a ⊢;exact h o a
 | .row o g _ _,a=>by unfold NB at a ⊢;exact⟨h o a.1,h g a.2⟩
 | .fH o g _ _ _ _ _,a=>by unfold NB at a ⊢;exact⟨h o a.1,h g a.2⟩
 | .vw o g _ _ _ _ _,a=>by unfold NB at a ⊢;exact⟨h o a.1,h g a.2⟩
 | .fp _,a=>by unfold NB;trivial
 | .aggv l,a=>by unfold NB at a ⊢;exact bN.mono h a
 | .tup l,a=>by unfold NB at a ⊢;exact bN.mono h a
 | .fn _ l,a=>by unfold NB at a ⊢;exact bN.mono h a
 | .und,a=>by unfold NB;trivial
 | .unk,a=>by unfold NB;trivial
theorem bN.mono{U U':Nat->Prop}(h:∀o,U o->U' o):∀{l:List AV},bN U l->bN U' l
 |[],_=>by unfold bN;trivial
 |x::l,a=>by unfold bN at a ⊢;exact⟨NB.mono h a.1,bN.mono h a.2⟩
end

mutual
theorem RV.mono{κ κ':dx}{F F':Nat->Prop}{w w':World}{U:Nat->Prop}(e:∀o,U o->κ' o=κ o)(hF:∀b,F b->F' b)(hb:∀b,F b->w'.heap[b]? =w.heap[b]?):
  ∀{x:AV}{v:Value},NB U x->RV κ F w x v->RV κ' F' w' x v
 | .dat d,v,_,h=>by unfold RV at h ⊢;exact RD.mono hF hb h
 | .own o,v,a,h=>by unfold NB at a;unfold RV at h ⊢;rw[e o a];exact h
 | .ref o i,v,a,h=>by unfold NB at a;unfold RV at h ⊢;rw[e o a];exact h
 | .eref o es k j,v,a,h=>by unfold NB at a;unfold RV at h ⊢;rw[e o a];exact h
 | .row o g k j,v,a,h=>by unfold NB at a;unfold RV at h ⊢;rw[e g a.2];exact h
 | .fH o g k j es i c,v,a,h=>by unfold NB at a;unfold RV at h ⊢;rw[e g a.2];exact h
 | .vw o g k j es lo n,v,a,h=>by unfold NB at a;unfold RV at h ⊢;rw[e g a.2];exact h
 | .fp ds,v,_,h=>by
  unfold RV at h ⊢;obtain⟨b,q,us,p,m,r,s⟩:=h;exact⟨b,q,us,p,hF b m,fun j u t=>(World.cell?_of_block (hb b m)).trans (r j u t),RC.mono hF hb s⟩
 | .aggv l,v,a,h=>by
  unfold NB at a;unfold RV at h ⊢;obtain⟨cs,p,m⟩:=h;exact⟨cs,p,bQ.mono e hF hb a m⟩
 | .tup l,v,a,h=>by
  unfold NB at a;unfold RV at h ⊢;obtain⟨cs,p,m⟩:=h;exact⟨cs,p,dz.mono e hF hb a m⟩
 | .fn f l,v,a,h=>by
  unfold NB at a;unfold RV at h ⊢;obtain⟨cs,p,m⟩:=h;exact⟨cs,p,dz.mono e hF hb a m⟩
 | .und,v,_,h=>by unfold RV at h ⊢;exact h
 | .unk,v,_,h=>by unfold RV;trivial
theorem dz.mono{κ κ':dx}{F F':Nat->Prop}{w w':World}{U:Nat->Prop}(e:∀o,U o->κ' o=κ o)(hF:∀b,F b->F' b)(hb:∀b,F b->w'.heap[b]? =w.heap[b]?):
  ∀{l:List AV}{us:List Value},bN U l->dz κ F w l us->dz κ' F' w' l us
 |[],_,_,h=>by unfold dz at h ⊢;exact h
 |d::ds,us,a,h=>by
  unfold bN at a;unfold dz at h ⊢;obtain⟨u,c,f,g,i⟩:=h;exact⟨u,c,f,RV.mono e hF hb a.1 g,dz.mono e hF hb a.2 i⟩
theorem bQ.mono{κ κ':dx}{F F':Nat->Prop}{w w':World}{U:Nat->Prop}(e:∀o,U o->κ' o=κ o)(hF:∀b,F b->F' b)(hb:∀b,F b->w'.heap[b]? =w.heap[b]?):
  ∀{l:List AV}{us:List Value},bN U l->bQ κ F w l us->bQ κ' F' w' l us
 |[],_,_,h=>by unfold bQ at h ⊢;exact h
 |d::ds,us,a,h=>by
  unfold bN at a;unfold bQ at h ⊢;obtain⟨u,c,f,g,i,j⟩:=h;exact⟨u,c,f,g,RV.mono e hF hb a.1 i,bQ.mono e hF hb a.2 j⟩
end

end
section

def rO(e n:Nat)(fz:Nat×Nat):Prop:=fz=(0,0) \/(4294967296<=e/\ n<=fz.1)
theorem rO.low{e n:Nat}{fz:Nat×Nat}(h:rO e n fz)(a:Nat.ble e 4294967295=true):fz=(0,0):=h.resolve_right fun h=>by have:=iQ a;omega
theorem rO.not{e n:Nat}{fz:Nat×Nat}(h:rO e n fz){j:Nat}(a:j<n):(decide (fz.1<=j)&&decide (j<fz.2))=false:=by
 rcases h with rfl|⟨_,h⟩
 ·simp
 ·simp;omega
def xY(w:World)(e:Nat)(g:Nat)(a:Array Value):Prop:=∃eb fz,w.heap[g]? =some (.cells a eb fz)/\ rO e a.size fz
theorem xY.keep{w w':World}{e g:Nat}{a:Array Value}(h:xY w e g a)(hb:w'.heap[g]? =w.heap[g]?):xY w' e g a:=by
 unfold xY;rw[hb];exact h
def Own(w:World)(e:TypeId)(size:Nat)(v:Value)(n:Nat)(xs:List Value):Prop:=
 xs.length=n*size/\
 ((v=.slice none 0 0/\ n=0) \/
 ∃g c a b,v=.slice (some ⟨g,c,none⟩) n a/\ xY w e g b/\ n<=a/\ a<=maxLen/\ c+a*size<=b.size/\ (b.toList.drop c).take (n*size)=xs)

section
variable{P:Program}{w:World}{e:TypeId}{size:Nat}{v:Value}{n:Nat}{xs:List Value}
theorem Own.of(h:w.ownsRow 0 e size v n xs):Own w e size v n xs:=by
 refine⟨h.1,?_⟩;rcases h.2 with h|⟨g,a,b,c,_,d,f,i,j,k⟩
 ·exact .inl h
 ·exact .inr ⟨g,0,a,b,c,⟨_,_,d,.inl rfl⟩,f,i,by rw[j,j4];exact dQ _,by simpa using k⟩
theorem Own.nil(w:World)(e:TypeId)(size:Nat):Own w e size (.slice none 0 0) 0 []:=⟨by simp,.inl ⟨rfl,rfl⟩⟩
theorem Own.slice(h:Own w e size v n xs):∃a c,v=.slice a n c:=by
 rcases h.2 with⟨rfl,rfl⟩|⟨g,f,b,d,rfl,_⟩
 ·exact⟨_,_,rfl⟩
 ·exact⟨_,_,rfl⟩
theorem Own.cells(h:Own w e size v n xs){g b p f:Nat}(m:v=.slice (some ⟨g,b,none⟩) p f):∀j u,xs[j]? =some u->w.cell? ⟨g,b+j,none⟩=some u:=by
 intro j u d;rcases h.2 with⟨c,_⟩|⟨q,o,l,i,c,⟨eb,fz,k,_⟩,_,_,_,a⟩
 ·rw[m]at c;simp at c
 ·rw[m]at c;simp only[Value.slice.injEq,bU,Addr.mk.injEq,and_true]at c;obtain⟨⟨rfl,rfl⟩,_⟩:=c;rw[cell_of_row w g (b+j) i eb fz k];rw[<-a,nI]at d;split at d
  ·rw[iX]at d;simpa using d
  ·cases d

theorem DJ(P:Program)(g o:Nat)(t:TypeId)(fz:Nat×Nat):∀(vs:List Value)(i:Nat)(a:Array Value)(w:World),w.heap[g]? =some (.cells a t fz)->(∀j,j<a.size->(decide (fz.1<=j)&&decide (j<fz.2))=false)->o+i+vs.length<=a.size->(∀v∈vs,v.oneCell'=true)->
  (storeCells ⟨g,o,none⟩ vs i).run P w=.ok () (w.setRow g (a.toList.take (o+i)++vs++a.toList.drop (o+i+vs.length)).toArray)
 |[],i,a,w,d,_,_,_=>by
  simp only[storeCells,mD,mq,lN,l9,Array.toArray_toList];rw[setRow_self w g a t fz d];rfl
 |v::b,i,a,w,d,p,k,m=>by
  have hi:o+i<a.size:=by simp at k;omega
  have f:(⟨g,o,none⟩:Addr).add i=⟨g,o+i,none⟩:=by unfold Addr.add;split<;>simp_all
  have c:w.cell? ⟨g,o+i,none⟩=some a[o+i]:=by simp[World.cell?,d,hi]
  have h:w.frozen? ⟨g,o+i,none⟩=false:=by unfold World.frozen?;rw[d];exact p _ hi
  have l:(store ((⟨g,o,none⟩:Addr).add i) v).run P w=.ok () (w.setRow g (a.setIfInBounds (o+i) v)):=by
   rw[f,run_store P w _ v _ (m v (by simp)),c];simp[h,setCell_eq_setRow w g (o+i) a t fz v d]
  have s:=DJ P g o t fz b (i+1) (a.setIfInBounds (o+i) v) (w.setRow g (a.setIfInBounds (o+i) v)) (setRow_heap w g a _ t _ d) (fun j q=>p j (by simpa using q)) (by simp at k ⊢;omega) (fun x r=>m x (by simp[r]));simp only[storeCells,Sem.run_bind,l,Result.andThen_ok,s,setRow_setRow];congr 3;have e:=list_seg_step a.toList (o+i) v b (by simp at k ⊢;omega);simpa[J3,j5]using e

theorem SH(t ty e:TypeId)(i:TypeInfo)(z:P.underlying t=some (.slice e))(hi:P.info? e=some i)
  (g h d k:Nat) (f:Array Value) (eb:TypeId) (fz:Nat×Nat) (x:w.heap[g]? =some (.cells f eb fz)) (A:∀j,j<f.size->(decide (fz.1<=j)&&decide (j<fz.2))=false)
  (a:Addr) (m c:Nat) (b:List Value) (y:b.length=m*i.size) (l:∀j u,b[j]? =some u->w.cell? (a.add j)=some u) (r:∀u∈b,u.oneCell'=true)
  (o:d+m<=k) (p:h+d*i.size+b.length<=f.size):
  (Builtin.append_ #[t,t] ty #[.slice (some ⟨g,h,none⟩) d k,.slice (some a) m c]).run P w=
   .ok (.slice (some ⟨g,h,none⟩) (d+m) k) (w.setRow g (f.toList.take (h+d*i.size)++b++f.toList.drop (h+d*i.size+b.length)).toArray):=by
 have s:=run_firstCells_some (P:=P) w i.size m a m c b y l;have q:=DJ P g (h+d*i.size) eb fz b 0 f w x A (by simpa using p) r;simp only[lN]at q;simp[Builtin.append_,run_underlying z,sizeOf,typeInfo,hi,Builtin.lenOf,o,s,Addr.add_lit,q]

theorem Si(t B e:TypeId)(i:TypeInfo)(z:Value)(K:P.underlying t=some (.slice e))(hi:P.info? e=some i)(Y:i.zero=some z)
  (U:z.cells.size=i.size) (aa:0<i.size)
  (v:Value) (n:Nat) (xs:List Value) (f:Own w e i.size v n xs)
  (a:Option Addr) (m c:Nat) (H:a=none->m=0/\ c=0) (b:List Value) (C:b.length=m*i.size) (y:∀A,a=some A->∀j u,b[j]? =some u->w.cell? (A.add j)=some u) (h1:∀u∈b,u.oneCell'=true)
  (D:n+m<=maxLen) (p:(n+m)*i.bytes<=140737488355328):
  ∃L w',(Builtin.append_ #[t,t] B #[v,.slice a m c]).run P w=.ok L w'/\ Own w' e i.size L (n+m) (xs++b)/\ w.grownBy w' v.ownBlock/\
   (L.ownBlock=v.ownBlock \/L.ownBlock=some w.heap.size):=by
 have q:(xs++b).length=(n+m)*i.size:=by rw[gu,f.1,C,iD]
 have x:∀(old:Nat),old<n+m->∀(row:Option Nat),
   Own (w.drew.alloc (.cells (xs.toArray++b.toArray++Builtin.zeroCells z.cells (grownCap w (n+m) old e-(n+m))) e)) e i.size
    (.slice (some ⟨w.heap.size,0,none⟩) (n+m) (grownCap w (n+m) old e)) (n+m) (xs++b)/\
   w.grownBy (w.drew.alloc (.cells (xs.toArray++b.toArray++Builtin.zeroCells z.cells (grownCap w (n+m) old e-(n+m))) e)) row:=by
  intro old ho row;have N:=grownCap_ge w (n+m) old e;have E:grownCap w (n+m) old e<=maxLen:=grownCap_le_maxLen w (n+m) old e D;refine⟨⟨q,.inr ⟨w.heap.size,0,_,_,rfl,⟨_,_,heap_alloc_new w.drew _,.inl rfl⟩,N,E,?_,?_⟩⟩,⟨rfl,rfl,rfl,by simp,fun k Q _=>Go.RowKit.Below.heap_alloc w.drew _ k Q⟩⟩
  ·simp only[Array.size_append,pG,size_zeroCells,U,f.1,C,<-iD,j4];exact l8 _ (by omega)
  ·simp only[Array.toList_append,eU,uj];rw[<-eU,<-q];exact Ap
 rcases f.2 with⟨rfl,rfl⟩|⟨g,d,l,h,rfl,⟨eb,fz,W,T⟩,S,E,M,G⟩
 ·have hx:xs=[]:=rM (by simpa using f.1);subst hx;by_cases X:m=0
  ·subst X;have R:b=[]:=rM (by simpa using C);subst R;refine⟨.slice none 0 0,w,?_,Own.nil w e i.size,⟨rfl,rfl,rfl,dQ _,fun _ _ _=>rfl⟩,.inl rfl⟩;cases a<;>simp[Builtin.append_,run_underlying K,sizeOf,typeInfo,hi,Builtin.lenOf,Builtin.firstCells,loadCells,loadCellsFrom]
  ·cases a with
   |none=>exact absurd (H rfl).1 X
   |some A=>
    have J:=run_append_nil (P:=P) w t B e i z K hi Y A m c b C (y A rfl) (by omega) (by simp only[maxLen]at D;omega) (by have hb:=p;simp only[j4]at hb;omega);have s:=x 0 (by omega) (Value.ownBlock (.slice none 0 0));simp only[j4,jD,Array.empty_append]at s ⊢;exact⟨_,_,J,s.1,s.2,.inr rfl⟩
 ·cases a with
  |none=>
   obtain⟨rfl,rfl⟩:=H rfl;have R:b=[]:=rM (by simpa using C);subst R;refine⟨_,w,?_,by simpa using f,⟨rfl,rfl,rfl,dQ _,fun _ _ _=>rfl⟩,.inl rfl⟩;simp[Builtin.append_,run_underlying K,sizeOf,typeInfo,hi,Builtin.lenOf,Builtin.firstCells,S,storeCells]
  |some A=>
   have r:=y A rfl;by_cases o:n+m<=l
   ·have I:d+n*i.size+b.length<=h.size:=by
     have:=l8 i.size o;rw[C,j5,<-iD];omega
    have J:=SH (P:=P) t B e i K hi g d n l h eb fz W (fun _ O=>T.not O) A m c b C r h1 o I;refine⟨_,_,J,⟨q,.inr ⟨g,d,l,_,rfl,⟨_,_,setRow_heap w g h _ eb _ W,by rwa [show(List.toArray (h.toList.take (d+n*i.size)++b++h.toList.drop (d+n*i.size+b.length))).size=h.size by simp only[pG,gu,eF,gY,iF];omega]⟩,o,E,?_,?_⟩⟩,⟨rfl,rfl,rfl,by simp,fun k _ Q=>setRow_other w g k _ (fun e=>Q (by simp[Value.ownBlock,e]))⟩,.inl rfl⟩
    ·simp only[pG,gu,eF,gY,iF];omega
    ·have hc:d+l*i.size<=h.toList.length:=by rw[iF];exact M
     have Z:h.toList.take (d+n*i.size)=h.toList.take d++xs:=by rw[List.take_add,G]
     have V:(h.toList.take d).length=d:=by rw[eF];omega
     rw[List.toList_toArray,Z,eU,eU,AJ (Nat.le_of_eq V.symm),JZ (Nat.le_of_eq V),jD,<-eU,<-q];exact Ap
   ·have F:∀j u,xs[j]? =some u->w.cell? ((⟨g,d,none⟩:Addr).add j)=some u:=fun j u O=>by
     rw[Addr.add_lit];exact f.cells rfl j u O
    have J:=run_append_grow (P:=P) w t B e i z K hi Y ⟨g,d,none⟩ n l xs f.1 F A m c b C r (by omega) (by simp only[maxLen]at D;omega) (growslice_fits (by omega) p);have s:=x l (by omega) (Value.ownBlock (.slice (some ⟨g,d,none⟩) n l));exact⟨_,_,J,s.1,s.2,.inr rfl⟩
theorem Own.cut(h:Own w e size v n xs){a:Option Addr}{b l m:Nat}(y:v=.slice a n b)(o:l<=m)(x:m<=n):
  Own w e size (.slice (if b=l then a else a.map (·.add (l*size))) (m-l) (b-l)) (m-l) ((xs.take (m*size)).drop (l*size))/\ (Value.slice (if b=l then a else a.map (·.add (l*size))) (m-l) (b-l)).ownBlock=v.ownBlock:=by
 subst y;have z:=l8 size o;have s:=l8 size x;have c:((xs.take (m*size)).drop (l*size)).length=(m-l)*size:=by rw[gY,eF,h.1,Nat.sub_mul];omega
 rcases h.2 with⟨f,j⟩|⟨g,i,r,d,f,j,t,C,D,u⟩
 ·simp only[Value.slice.injEq]at f;obtain⟨rfl,rfl,rfl⟩:=f;have k:l=0:=by omega
  have p:m=0:=by omega
  subst k;subst p;exact⟨⟨c,.inl ⟨by simp,rfl⟩⟩,by simp⟩
 ·simp only[Value.slice.injEq]at f;obtain⟨rfl,_,rfl⟩:=f;have A:=l8 size t;by_cases hc:b=l
  ·have q:m=l:=by omega
   subst q;refine⟨⟨c,.inr ⟨g,i,_,d,by rw[if_pos hc],j,by omega,by omega,by rw[hc];simp;omega,?_⟩⟩,by rw[if_pos hc];rfl⟩;rw[ow,o8,oC];exact(rM (by rw[c];simp)).symm
  ·have B:=l8 size (show l<=b by omega);refine⟨⟨c,.inr ⟨g,i+l*size,_,d,by rw[if_neg hc,gW,Addr.add_lit],j,by omega,by omega,by rw[Nat.sub_mul];omega,?_⟩⟩,by rw[if_neg hc,gW,Addr.add_lit];rfl⟩;rw[<-u,List.take_take,tV s,<-AB,Nat.sub_mul,List.drop_take]
end
end
section

structure bD where
 desc:TypeDesc
 size:Nat
 bytes:Nat
 zero:Value
 eq:Bool

def bS(P:Program)(t:TypeId)(x:bD):Prop:=
 P.underlying t=some x.desc/\ ∃i,P.info? t=some i/\ i.size=x.size/\ i.bytes=x.bytes/\ i.zero=some x.zero/\
  (x.eq=true->P.stoodInHeld t=false/\ P.eqGuardType P.depth t=false/\ ∀a,x.desc=.struct a->(a.toList.all fun f=>f.name != "_")=true)

def wM(t:Nat):List (Nat×bD)->Option bD
 |[]=>none
 |(k,x)::r=>bif Nat.beq t k then some x else wM t r
theorem Ph{P:Program}:∀p∈([]:List (Nat×bD)),bS P p.1 p.2:=by simp
theorem dO{P:Program}{k:Nat}{x:bD}{r:List (Nat×bD)}(h:bS P k x)(a:∀p∈r,bS P p.1 p.2):∀p∈(k,x)::r,bS P p.1 p.2:=by
 intro p hp;rcases dY.1 hp with rfl|hp
 ·exact h
 ·exact a p hp
theorem H9{P:Program}:∀{l:List (Nat×bD)},(∀p∈l,bS P p.1 p.2)->∀t x,wM t l=some x->bS P t x
 |[],_,t,x,h=>by simp[wM]at h
 |(k,y)::r,a,t,x,h=>by
  unfold wM at h;cases hb:Nat.beq t k with
  |true=>
   rw[hb]at h;simp only[cond_true,bU]at h;subst h;have:=eG hb;subst this;exact a (t,y) (dU ..)
  |false=>
   rw[hb]at h;exact H9 (fun p b=>a p (dZ _ b)) t x h

def bD.isAgg(x:bD):Bool:=
 match x.desc with
 | .struct _| .array _ _=>true
 |_=>false

abbrev bJ:=Nat->Option bH
abbrev eP:=List (Nat×Option bH)

def upd(σ:bJ)(o:Nat)(x:Option bH):bJ:=fun n=>bif Nat.beq n o then x else σ n
def app(δ:eP)(σ:bJ):bJ:=
 match δ with
 |[]=>σ
 |(o,x)::r=>app r (upd σ o x)

inductive Pt where
 |rd
 |zr
 |sl
 |bx
 |bo (k:Nat)
 |ag (l:List Pt)
 |fn (f:Nat) (l:List Pt)
mutual
def Pt.n:Pt->Nat
 | .rd=>0
 | .zr=>0
 | .sl=>1
 | .bx=>1
 | .bo k=>1+k
 | .ag l=>Pt.ns l
 | .fn _ l=>Pt.ns l
def Pt.ns:List Pt->Nat
 |[]=>0
 |p::l=>p.n+Pt.ns l
end
structure dJ where
 lend:List Pt
 pre:List D->List bH->Prop
 post:List D->List bH->AV->List bH->List bH->Prop
 kp:List Nat:=[]
 NS:∀ds obs r new cO,post ds obs r new cO->(∀j∈kp,cO[j]? =obs[j]?)/\ (kp≠[]->cO.length=obs.length):=by
  intro _ _ _ _ _ _;exact⟨fun j h=>(by cases h),fun h=>absurd rfl h⟩
 kc:List (Nat×Nat):=[]
 NT:∀ds obs r new cO,post ds obs r new cO->∀p∈kc,∃T l l' d,obs[p.1]? =some (.box T l)/\ cO[p.1]? =some (.box T l')/\ l'.length=l.length/\ l[p.2]? =some (.dat d)/\ l'[p.2]? =some (.dat d):=by
  intro _ _ _ _ _ _ p h;cases h

inductive Spec where
 |fail
 |bR (p:Prop) (rd:List Nat) (av:AV) (δ:eP)
 |split (b:Bool) (s t:Spec)
 |call (p:Prop) (rd:List Nat) (R:AV->eP->Prop)

def Spec.T(K:AV->eP->Prop):Spec->Prop
 | .fail=>False
 | .bR p _ av δ=>p/\ K av δ
 | .split b s t=>bif b then s.T K else t.T K
 | .call p _ R=>p/\ ∀av δ,R av δ->K av δ

def Spec.pre:Spec->Prop
 | .fail=>False
 | .bR p _ _ _=>p
 | .split b s t=>bif b then s.pre else t.pre
 | .call p _ _=>p

def Spec.R:Spec->AV->eP->Prop
 | .fail,_,_=>False
 | .bR _ _ av δ,a,c=>a=av/\ c=δ
 | .split b s t,a,c=>bif b then s.R a c else t.R a c
 | .call _ _ R,a,c=>R a c

theorem Spec.o7{K:AV->eP->Prop}:∀{s:Spec},s.T K↔s.pre/\ ∀av δ,s.R av δ->K av δ
 | .fail=>by simp[T,pre]
 | .bR p rd av δ=>by simp[T,pre,R]
 | .split b s t=>by
  cases b
  ·simpa[T,pre,R]using o7 (s:=t)
  ·simpa[T,pre,R]using o7 (s:=s)
 | .call p rd a=>by simp[T,pre,R]

def pX:AV->Option Bool
 | .dat (.sc (.bool b))=>some b
 |_=>none
def fE:AV->Option (IntKind×Int)
 | .dat (.sc (.int k n))=>some (k,n)
 |_=>none
def jhu:AV->Option ByteArray
 | .dat (.sc (.string s))=>some s
 |_=>none

def nk:Value->AV
 | .agg cs=>if cs.toList.all one then .dat (.agg (cs.toList.map .sc))else .unk
 | .tuple _=>.unk
 |v=>.dat (.sc v)

def AV.cells:AV->Option (List AV)
 | .aggv l=>some l
 | .dat (.agg l)=>some (l.map .dat)
 | .tup _| .und| .unk=>none
 |x=>some [x]

def AV.oF:AV->Option D
 | .dat d=>some d
 |_=>none
def jG:List AV->Option (List D)
 |[]=>some []
 |x::l=>match x.oF,jG l with
  |some d,some ds=>some (d::ds)
  |_,_=>none

def jZ(l:List AV):AV:=match jG l with
 |some ds=>.dat (.agg ds)
 |none=>.aggv l

def qE(agg:Bool)(l:List D):Option D:=
 if agg then some (.agg l)else match l with|[d]=>some d|_=>none

def bH.sl:bH->Option (Nat×List D)
 | .arr _ es l=>some (es,l)
 | .tab _ es _ l _ none=>some (es,l)
 |_=>none
def mP(σ:bJ)(o:Nat):Option (Nat×List D):=match σ o with
 |some x=>x.sl
 |none=>none

def jL(σ:bJ):AV->Option (D×List Nat)
 | .dat d=>some (d,[])
 | .own o=>match mP σ o with
  |some (es,l)=>some (.sl es l,[o])
  |_=>none
 | .aggv l=>match go l with
  |some (ds,rd)=>some (.agg ds,rd)
  |none=>none
 |_=>none
 where
 go:List AV->Option (List D×List Nat)
  |[]=>some ([],[])
  | .dat d::l=>match go l with
   |some (ds,rd)=>some (d::ds,rd)
   |none=>none
  | .own o::l=>match mP σ o,go l with
   |some (es,x),some (ds,rd)=>some (.sl es x::ds,o::rd)
   |_,_=>none
  |_::_=>none

def lS(σ:bJ)(es:Nat):AV->Option (List D×List Nat)
 | .dat (.sl es' l)=>if es'=es then some (l,[])else none
 | .dat (.sc (.slice none 0 0))=>some ([],[])
 | .own o=>match σ o with
  |some (.arr _ es' l)=>if es'=es then some (l,[o])else none
  |_=>none
 |_=>none

def qH(k:IntKind)(r:Int):Spec:=.bR True [] (.dat (.sc (.int k (k.wrap r)))) []

def jk(b:Bool):Spec:=.bR True [] (.dat (.sc (.bool b))) []

def oL(a:Bool):AV->Spec
 | .dat (.sl _ (_::_))=>.bR True [] (.dat (.sc (.bool a))) []
 | .dat (.sl _ l)=>.call True [] fun av δ=>δ=[]/\ ∃b:Bool,av=.dat (.sc (.bool (b !=a)))/\ (l≠[]->b=false)
 | .dat (.sc (.slice none 0 0))=>.bR True [] (.dat (.sc (.bool (!a)))) []
 |_=>.fail
def tQ(ty:TypeId->Option bD)(xs ys:List D):List Field->Option Bool
 |[]=>some true
 |f::c=>
  match ty f.type,xs[f.offset]?,ys[f.offset]? with
  |some {desc:=.int _,..},some (.sc (.int k a)),some (.sc (.int k' b))=>if k=k' then(tQ ty xs ys c).map fun r=>a==b&&r else none
  |some {desc:=.bool,..},some (.sc (.bool a)),some (.sc (.bool b))=>(tQ ty xs ys c).map fun r=>a==b&&r
  |some {desc:=.string,..},some (.sc (.string a)),some (.sc (.string b))=>(tQ ty xs ys c).map fun r=>a.toList==b.toList&&r
  |_,_,_=>none
def q9(ty:TypeId->Option bD)(xs ys:List D):List Field->Option Bool
 |[]=>some true
 |f::c=>
  match ty f.type,xs[f.offset]?,ys[f.offset]? with
  |some {desc:=.int _,..},some (.sc (.int k a)),some (.sc (.int k' b))=>if k=k' then(q9 ty xs ys c).map fun r=>a==b&&r else none
  |some {desc:=.bool,..},some (.sc (.bool a)),some (.sc (.bool b))=>(q9 ty xs ys c).map fun r=>a==b&&r
  |some {desc:=.string,..},some (.sc (.string a)),some (.sc (.string b))=>(q9 ty xs ys c).map fun r=>a.toList==b.toList&&r
  |some {desc:=.struct gs,size:=n,eq:=true,..},_,_=>
   match tQ ty ((xs.drop f.offset).take n) ((ys.drop f.offset).take n) gs.toList with
   |some q=>(q9 ty xs ys c).map fun r=>q&&r
   |none=>none
  |_,_,_=>none
def ru:List D->List D->Option Bool
 |[],[]=>some true
 | .sc (.int k a)::l,.sc (.int k' b)::l'=>if k=k' then(ru l l').map fun r=>a==b&&r else none
 |_,_=>none
def Bv(ty:TypeId->Option bD)(l l':List D):TypeDesc->Option Bool
 | .struct a=>q9 ty l l' a.toList
 | .array n el=>match ty el with
  |some {desc:=.int _,size:=1,..}=>if l.length=n then ru l l' else none
  |_=>none
 |_=>none
def sJ(ty:TypeId->Option bD)(a:BinOp)(t:TypeId):AV->AV->Spec
 | .dat (.agg l),.dat (.agg l')=>
  match ty t with
  |some {desc:=d,eq:=true,..}=>
   match Bv ty l l' d with
   |some b=>
    match a with
    | .eql=>jk b
    | .neq=>jk (!b)
    |_=>.fail
   |none=>.fail
  |_=>.fail
 |_,_=>.fail
def xk(ty:TypeId->Option bD)(a:BinOp)(t:TypeId)(x y:AV):Spec:=
 match ty t,y with
 |some {desc:=.slice _,..},.dat (.sc (.slice none 0 0))=>
  match a with
  | .eql=>oL false x
  | .neq=>oL true x
  |_=>.fail
 |some {desc:=.pointer _,..},.dat (.sc (.pointer none))=>
  match x,a with
  | .ref _ _,.eql=>jk false
  | .ref _ _,.neq=>jk true
  | .dat (.sc (.pointer none)),.eql=>jk true
  | .dat (.sc (.pointer none)),.neq=>jk false
  |_,_=>.fail
 |_,_=>sJ ty a t x y

def uS(ty:TypeId->Option bD)(op:BinOp)(t:TypeId)(x y:AV):Spec:=
 match fE x,fE y with
 |some (k,a),some (k',b)=>
  match op with
  | .shl=>.bR (0<=b) [] (.dat (.sc (.int k (k.wrap (a*2^(min b.toNat k.bits)))))) []
  | .shr=>.bR (0<=b) [] (.dat (.sc (.int k (a.fdiv (2^(min b.toNat k.bits)))))) []
  |op=>
  if k=k' then
   match op with
   | .add=>qH k (a+b)
   | .sub=>qH k (a-b)
   | .mul=>qH k (a*b)
   | .quo=>.bR (b≠0) [] (.dat (.sc (.int k (k.wrap (a.tdiv b))))) []
   | .rem=>.bR (b≠0) [] (.dat (.sc (.int k (a.tmod b)))) []
   | .eql=>jk (a==b)
   | .neq=>jk (a !=b)
   | .lss=>jk (a<b)
   | .leq=>jk (a<=b)
   | .gtr=>jk (b<a)
   | .geq=>jk (b<=a)
   | .and=>.bR True [] (.dat (.sc (.int k (k.wrap (BitVec.ofInt k.bits a&&&BitVec.ofInt k.bits b).toNat)))) []
   | .or=>.bR True [] (.dat (.sc (.int k (k.wrap (BitVec.ofInt k.bits a|||BitVec.ofInt k.bits b).toNat)))) []
   | .xor=>.bR True [] (.dat (.sc (.int k (k.wrap (BitVec.ofInt k.bits a^^^BitVec.ofInt k.bits b).toNat)))) []
   |_=>.fail
  else .fail
 |_,_=>
 match jhu x,jhu y with
 |some a,some b=>
  match op with
  | .add=>.bR (((a.size+b.size:Nat):Int)<=9223372036854775807) [] (.dat (.sc (.string (a++b)))) []
  | .eql=>jk (a.toList==b.toList)
  | .neq=>jk (!(a.toList==b.toList))
  | .lss=>jk (Op.bytesLess a.toList b.toList)
  | .leq=>jk (Op.bytesLess a.toList b.toList||a.toList==b.toList)
  | .gtr=>jk (!(Op.bytesLess a.toList b.toList||a.toList==b.toList))
  | .geq=>jk (!(Op.bytesLess a.toList b.toList))
  |_=>.fail
 |_,_=>
 match pX x,pX y,ty t with
 |some a,some b,some {desc:=.bool,..}=>
  match op with
  | .eql=>jk (a==b)
  | .neq=>jk (!(a==b))
  |_=>.fail
 |_,_,_=>xk ty op t x y

def spl{α:Type}(l:List α)(i:Nat)(xs:List α):List α:=l.take i++xs++l.drop (i+xs.length)

def dA(mask:List (Option TypeId))(j:Nat):Option TypeId:=(mask[j]?).getD none
def fV(hole:Option (Nat×Nat))(j n:Nat):Bool:=match hole with
 |none=>true
 |some (_,a)=>Nat.blt a j||Nat.ble (j+n) a
def gK(d:D)(j:Nat):Nat×List D:=match d.cells.getD j (.sc undef)with
 | .sl es rows=>(es,rows)
 |_=>(0,[])
def dM(l:List D)(k j:Nat):Nat×List D:=gK (l.getD k (.sc undef)) j
def oV(d:D)(j:Nat)(x:D):D:=match d with
 | .agg cs=>.agg (cs.set j x)
 |_=>x
def tH(o g k:Nat)(mask:List (Option TypeId))(d:D)(j n:Nat):List AV:=(List.range n).map fun i=>match dA mask (j+i)with
 |some _=>.row o g k (j+i)
 |none=>.dat (d.cells.getD (j+i) (.sc undef))
structure vS where
 e:TypeId
 es:Nat
 mask:List (Option TypeId)
 l:List D
 hole:Option (Nat×Nat)
def gM(σ:bJ)(o g:Nat):Option vS:=match σ o with
 |some (.tab e es mask l a hole)=>if a=g then some ⟨e,es,mask,l,hole⟩else none
 |_=>none
def oQ(ty:TypeId->Option bD)(σ:bJ)(o g:Nat)(mask:List (Option TypeId))(hole:Option (Nat×Nat))(d:D):Nat->List AV->Option (List D×List Nat×List Nat)
 |_,[]=>some ([],[],[])
 |j,x::xs=>match oQ ty σ o g mask hole d (j+1) xs with
  |none=>none
  |some (ds,ns,b)=>
   match dA mask j with
   |none=>match x with
    | .dat d'=>some (d'::ds,ns,b)
    |_=>none
   |some e'=>match x with
    | .own n=>match σ n with
     |some (.arr c a rows)=>if c=e' then some (.sl a rows::ds,n::ns,b)else none
     |_=>none
    | .row o' e k' j'=>if o'=o/\ e=g/\ j'=j/\ fV hole j 1=true then some (d.cells.getD j (.sc undef)::ds,ns,k'::b)else none
    | .vw o' e k' j' es' lo n=>if o'=o/\ e=g/\ j'=j/\ fV hole j 1=true/\ (gK d j).1=es' then some (.sl es' (((gK d j).2.take (lo+n)).drop lo)::ds,ns,k'::b)else none
    | .dat (.sc (.slice none 0 0))=>match ty e' with
     |some E=>if 0<E.size then some (.sl E.size []::ds,ns,b)else none
     |none=>none
    |_=>none
def lJ(hole:Option (Nat×Nat))(j n:Nat):Option (Nat×Nat):=bif fV hole j n then hole else none
def lU:List Nat->eP
 |[]=>[]
 |n::r=>(n,none)::lU r

def nu(σ:bJ)(T:bD)(o es k j:Nat):Spec:=match σ o with
 |some (.tab _ es' mask l g hole)=>
  if es=es' then
   (if T.isAgg then(if fV hole j T.size=true then .bR (k<l.length/\ j+T.size<=es) [o] (jZ (tH o g k mask (l.getD k (.sc undef)) j T.size)) []else .fail)
   else match dA mask j with
    |none=>.bR (k<l.length/\ j<es) [o] (.dat ((l.getD k (.sc undef)).cells.getD j (.sc undef))) []
    |some _=>if fV hole j 1=true then .bR (k<l.length/\ j<es) [o] (.row o g k j) []else .fail)
  else .fail
 |_=>.fail

def nR(σ:bJ)(T:bD)(o g k j es i c:Nat):Spec:=match gM σ o g with
 |some t=>
  if fV t.hole j 1=true/\ (dA t.mask j).isSome=true then
   (if T.isAgg then .bR (k<t.l.length/\ (dM t.l k j).1=es/\ i<(dM t.l k j).2.length/\ c+T.size<=es) [o] (.dat (.agg ((((dM t.l k j).2.getD i (.sc undef)).cells.drop c).take T.size))) []
   else .bR (k<t.l.length/\ (dM t.l k j).1=es/\ i<(dM t.l k j).2.length/\ c<es) [o] (.dat (((dM t.l k j).2.getD i (.sc undef)).cells.getD c (.sc undef))) [])
  else .fail
 |none=>.fail

def nW(ty:TypeId->Option bD)(σ:bJ)(nm o es k j:Nat)(cs:List AV):Spec:=match σ o with
 |some (.tab e es' mask l g hole)=>
  match ty e,oQ ty σ o g mask hole (l.getD k (.sc undef)) j cs with
  |some E,some (ds,ns,c)=>
   if es=es'/\ E.size=es then
    (if E.isAgg then .bR (k<l.length/\ j+ds.length<=es/\ (∀k'∈c,k'=k)/\ (∀a b,hole=some (a,b)->fV hole j ds.length=false->a=k)/\ ns.Nodup) (o::ns) .und
      (lU ns++[(o,some (.tab e es mask (l.set k (.agg (spl (l.getD k (.sc undef)).cells j ds))) nm (lJ hole j ds.length)))])
    else match ds with
     |[d]=>if es=1 then .bR (k<l.length/\ j=0/\ (∀k'∈c,k'=k)/\ (∀a b,hole=some (a,b)->fV hole j 1=false->a=k)/\ ns.Nodup) (o::ns) .und (lU ns++[(o,some (.tab e es mask (l.set k d) nm (lJ hole j 1)))])else .fail
     |_=>.fail)
   else .fail
  |_,_=>.fail
 |_=>.fail

def nV(ty:TypeId->Option bD)(σ:bJ)(o g k j es i c:Nat)(ds:List D):Spec:=match gM σ o g with
 |some t=>
  match (dA t.mask j).bind ty with
  |some E=>
   if fV t.hole j 1=true/\ E.size=es then
    (if E.isAgg then .bR (k<t.l.length/\ (dM t.l k j).1=es/\ i<(dM t.l k j).2.length/\ c+ds.length<=es) [o] .und
      [(o,some (.tab t.e t.es t.mask (t.l.set k (oV (t.l.getD k (.sc undef)) j (.sl es ((dM t.l k j).2.set i (.agg (spl ((dM t.l k j).2.getD i (.sc undef)).cells c ds)))))) g t.hole))]
    else match ds with
     |[d]=>if es=1 then .bR (k<t.l.length/\ (dM t.l k j).1=es/\ i<(dM t.l k j).2.length/\ c=0) [o] .und
       [(o,some (.tab t.e t.es t.mask (t.l.set k (oV (t.l.getD k (.sc undef)) j (.sl es ((dM t.l k j).2.set i d)))) g t.hole))]else .fail
     |_=>.fail)
   else .fail
  |none=>.fail
 |none=>.fail

def qg(σ:bJ)(E:bD)(o g k j:Nat)(n:Int):Spec:=match gM σ o g with
 |some t=>if fV t.hole j 1=true/\ (dA t.mask j).isSome=true then .bR (k<t.l.length/\ (dM t.l k j).1=E.size/\ 0<=n/\ n<(dM t.l k j).2.length) [o] (.fH o g k j E.size n.toNat 0) []else .fail
 |none=>.fail
def qU(σ:bJ)(E:bD)(o g k j:Nat)(l h:Int):Spec:=match gM σ o g with
 |some t=>if fV t.hole j 1=true/\ (dA t.mask j).isSome=true then .bR (k<t.l.length/\ (dM t.l k j).1=E.size/\ 0<=l/\ l<=h/\ h<=(dM t.l k j).2.length) [o] (.vw o g k j E.size l.toNat (h-l).toNat) []else .fail
 |none=>.fail
def p8(σ:bJ)(o g k j:Nat):Spec:=match gM σ o g with
 |some t=>if fV t.hole j 1=true/\ (dA t.mask j).isSome=true then .bR (k<t.l.length) [o] (.dat (.sc (.int .i64 (dM t.l k j).2.length))) []else .fail
 |none=>.fail

def qm(σ:bJ)(nm:Nat)(e:TypeId)(E:bD)(s:AV)(d:Nat):Spec:=match σ d with
 |some (.tab j g b c _ none)=>
  if j=e/\ g=E.size then
   match s with
   | .dat (.sc (.slice none 0 0))=>.bR ((c.length:Int)<=140737488355328/\ (c.length:Int)*E.bytes<=140737488355328) [d] (.own nm) [(d,none),(nm,some (.tab e E.size b c nm none))]
   | .own o=>match σ o with
    |some (.tab i f a h _ none)=>
     if i=e/\ f=E.size/\ a=b/\ o≠d then
      .bR (((h.length+c.length:Nat):Int)<=140737488355328/\ ((h.length+c.length:Nat):Int)*E.bytes<=140737488355328) [o,d] (.own nm) [(o,none),(d,none),(nm,some (.tab e E.size a (h++c) nm none))]
     else .fail
    |_=>.fail
   |_=>.fail
  else .fail
 |_=>.fail

def oZ(σ:bJ)(nm:Nat)(e:TypeId)(E:bD)(o g k j:Nat)(a:List D)(rd:List Nat):Spec:=match gM σ o g with
 |some t=>
  match t.hole with
  |none=>
   if dA t.mask j=some e then
    .bR (k<t.l.length/\ (dM t.l k j).1=E.size/\ (((dM t.l k j).2.length+a.length:Nat):Int)<=140737488355328/\ (((dM t.l k j).2.length+a.length:Nat):Int)*E.bytes<=140737488355328) (o::rd) (.own nm)
     [(o,some (.tab t.e t.es t.mask t.l g (some (k,j)))),(nm,some (.arr e E.size ((dM t.l k j).2++a)))]
   else .fail
  |some _=>.fail
 |none=>.fail

def jP(σ:bJ):List AV->List (Option TypeId)
 |[]=>[]
 | .own n::l=>(match σ n with|some (.arr e _ _)=>some e|_=>none)::jP σ l
 |_::l=>none::jP σ l
def lK(ty:TypeId->Option bD)(σ:bJ)(nm:Nat)(mask:List (Option TypeId))(agg:Bool)(es:Nat):Nat->List (Nat×AV)->Option (List D×List Nat)
 |_,[]=>some ([],[])
 |k,(i,x)::a=>
  if i=k then
   match x.cells with
   |some cs=>
    if cs.length=es then
     match oQ ty σ nm nm mask none (.sc undef) 0 cs,lK ty σ nm mask agg es (k+1) a with
     |some (ds,ns,[]),some (r,b)=>match F7 agg ds with
      |some d=>some (d::r,ns++b)
      |none=>none
     |_,_=>none
    else none
   |none=>none
  else none
 where
 F7 (agg:Bool) (l:List D):Option D:=if agg then some (.agg l)else match l with|[d]=>some d|_=>none

def jQ(ty:TypeId->Option bD)(σ:bJ)(t:TypeId)(x:AV):Spec:=
 match ty t with
 |none=>.fail
 |some T=>
  match x with
  | .ref o i=>
   match σ o with
   |some (.box _ l)=>
    if T.isAgg then(if i+T.size<=l.length then .bR True [o] (jZ ((l.drop i).take T.size)) []else .fail)
    else match l[i]? with
     |some v=>.bR True [o] v []
     |none=>.fail
   |_=>.fail
  | .eref o es k j=>
   match σ o with
   |some (.arr _ es' l)=>
    if es=es' then
     (if T.isAgg then .bR (k<l.length/\ j+T.size<=es) [o] (.dat (.agg (((l.getD k (.sc undef)).cells.drop j).take T.size))) []
     else .bR (k<l.length/\ j<es) [o] (.dat ((l.getD k (.sc undef)).cells.getD j (.sc undef))) [])
    else .fail
   |some (.tab ..)=>nu σ T o es k j
   |_=>.fail
  | .fH o g k j es i c=>nR σ T o g k j es i c
  | .fp ds=>
   if T.isAgg then .bR (T.size<=ds.length) [] (.dat (.agg (ds.take T.size))) []
   else match ds with
    |d::_=>.bR True [] (.dat d) []
    |[]=>.fail
  |_=>.fail

def nZ(ty:TypeId->Option bD)(σ:bJ)(nm:Nat)(t:TypeId)(a x:AV):Spec:=
 match ty t,x.cells with
 |some T,some cs=>
  if cs.length=T.size then
   match a with
   | .ref o i=>
    match σ o with
    |some (.box T l)=>if i+cs.length<=l.length then .bR True [o] .und [(o,some (.box T (spl l i cs)))]else .fail
    |_=>.fail
   | .eref o es k j=>
    match σ o,jG cs with
    |some (.arr e es' l),some ds=>
     if es=es' then
      match ty (e%4294967296)with
      |some E=>
       if E.size=es then
        (if E.isAgg then .bR (k<l.length/\ j+ds.length<=es) [o] .und [(o,some (.arr e es (l.set k (.agg (spl (l.getD k (.sc undef)).cells j ds)))))]
        else match ds with
         |[d]=>if es=1 then .bR (k<l.length/\ j=0) [o] .und [(o,some (.arr e es (l.set k d)))]else .fail
         |_=>.fail)
       else .fail
      |none=>.fail
     else .fail
    |some (.tab ..),_=>nW ty σ nm o es k j cs
    |_,_=>.fail
   | .fH o g k j es i c=>match jG cs with
    |some ds=>nV ty σ o g k j es i c ds
    |none=>.fail
   |_=>.fail
  else .fail
 |_,_=>.fail

def ze(ty:TypeId->Option bD)(s:TypeId)(f:Nat):Option Nat:=
 match ty s with
 |some {desc:=.struct fs,..}=>
  match fs[f]? with
  |some x=>match ty x.type with
   |some T=>if T.size=0 then none else some x.offset
   |none=>none
  |none=>none
 |_=>none

def vk(ty:TypeId->Option bD)(s:TypeId)(x:AV)(f:Nat):Spec:=
 match ze ty s f with
 |none=>.fail
 |some a=>
  match x with
  | .ref o i=>.bR True [] (.ref o (i+a)) []
  | .eref o es k j=>.bR True [] (.eref o es k (j+a)) []
  | .fH o g k j es i c=>.bR True [] (.fH o g k j es i (c+a)) []
  | .fp ds=>.bR (a<=ds.length) [] (.fp (ds.drop a)) []
  |_=>.fail

def vR:AV->Option (List AV)
 | .aggv l=>some l
 | .dat (.agg l)=>some (l.map .dat)
 |_=>none
def wT(ty:TypeId->Option bD)(s:TypeId)(x:AV)(f:Nat):Spec:=
 match ty s with
 |some {desc:=.struct fs,..}=>
  match fs[f]? with
  |some a=>match ty a.type,vR x with
   |some T,some l=>
    if T.isAgg then(if a.offset+T.size<=l.length then .bR True [] (jZ ((l.drop a.offset).take T.size)) []else .fail)
    else match l[a.offset]? with
     |some v=>.bR True [] v []
     |none=>.fail
   |_,_=>.fail
  |none=>.fail
 |_=>.fail

def iY(ty:TypeId->Option bD)(t:TypeId):Option (TypeId×bD):=
 match ty t with
 |some {desc:=.slice e,..}=>match ty e with
  |some E=>some (e,E)
  |none=>none
 |_=>none

def uM(agg:Bool)(es:Nat):Nat->List Value->Option (List D)
 |0,[]=>some []
 |0,_::_=>none
 |n+1,l=>
  if(l.take es).length=es/\ (l.take es).all one=true then
   match qE agg ((l.take es).map .sc),uM agg es n (l.drop es)with
   |some d,some r=>some (d::r)
   |_,_=>none
  else none
def BM(ty:TypeId->Option bD)(T:bD):Option (TypeId×Nat×List D):=
 match T.desc with
 | .array n el=>
  if 4<n/\ n<=100000 then
   match ty el with
   |some E=>if 0<E.size then(uM E.isAgg E.size n T.zero.cells.toList).map fun ds=>(el,E.size,ds)else none
   |none=>none
  else none
 |_=>none
def CO(ty:TypeId->Option bD)(t:TypeId)(x:AV)(n:Int):Spec:=
 match ty t with
 |some {desc:=.array len e,..}=>
  match ty e with
  |some E=>
   match x with
   | .ref o i=>.bR (0<=n/\ n<len) [] (.ref o (i+n.toNat*E.size)) []
   | .eref o es k j=>if E.size=es/\ j=0 then .bR (0<=n/\ n<len) [] (.eref o es (n.toNat+k) 0) []else .bR (0<=n/\ n<len) [] (.eref o es k (j+n.toNat*E.size)) []
   | .fH o g k j es i c=>.bR (0<=n/\ n<len) [] (.fH o g k j es i (c+n.toNat*E.size)) []
   | .fp ds=>.bR (0<=n/\ n<len) [] (.fp (ds.drop (n.toNat*E.size))) []
   |_=>.fail
  |none=>.fail
 |_=>.fail
def yM(ty:TypeId->Option bD)(t:TypeId)(x i:AV):Spec:=
 match ty t,fE i with
 |some {desc:=.array len e,..},some (_,n)=>
  match ty e,vR x with
  |some E,some l=>
   if E.isAgg then(if n.toNat*E.size+E.size<=l.length then .bR (0<=n/\ n<len) [] (jZ ((l.drop (n.toNat*E.size)).take E.size)) []else .fail)
   else match l[n.toNat*E.size]? with
    |some v=>.bR (0<=n/\ n<len) [] v []
    |none=>.fail
  |_,_=>.fail
 |_,_=>.fail
def qj(ty:TypeId->Option bD)(σ:bJ)(t:TypeId)(x i:AV):Spec:=
 match iY ty t,fE i with
 |some (_,E),some (_,n)=>
  match x with
  | .dat (.sl es l)=>if es=E.size then .bR (0<=n/\ n<l.length) [] (.fp (l.getD n.toNat (.sc undef)).cells) []else .fail
  | .own o=>
   match σ o with
   |some (.arr _ es l)=>if es=E.size then .bR (0<=n/\ n<l.length) [o] (.eref o es n.toNat 0) []else .fail
   |some (.tab _ es _ l _ _)=>if es=E.size then .bR (0<=n/\ n<l.length) [o] (.eref o es n.toNat 0) []else .fail
   |_=>.fail
  | .row o g k j=>qg σ E o g k j n
  | .vw o g k j es lo m=>if es=E.size then .bR (0<=n/\ n<(m:Int)) [] (.fH o g k j es (lo+n.toNat) 0) []else .fail
  |_=>.fail
 |none,some (_,n)=>CO ty t x n
 |_,_=>.fail

def tu(ty:TypeId->Option bD)(σ:bJ)(t:TypeId)(x:AV):Spec:=
 match ty t with
 |some {desc:=.string,..}=>match jhu x with
  |some s=>.bR True [] (.dat (.sc (.int .i64 s.size))) []
  |none=>.fail
 |some {desc:=.slice _,..}=>match x with
  | .dat (.sl _ l)=>.bR True [] (.dat (.sc (.int .i64 l.length))) []
  | .dat (.sc (.slice none 0 0))=>.bR True [] (.dat (.sc (.int .i64 0))) []
  | .own o=>match σ o with
   |some (.arr _ _ l)=>.bR True [o] (.dat (.sc (.int .i64 l.length))) []
   |some (.tab _ _ _ l _ _)=>.bR True [o] (.dat (.sc (.int .i64 l.length))) []
   |_=>.fail
  | .row o g k j=>p8 σ o g k j
  | .vw _ _ _ _ _ _ m=>.bR True [] (.dat (.sc (.int .i64 m))) []
  |_=>.fail
 |_=>.fail

def vE(ty:TypeId->Option bD)(σ:bJ)(nm:Nat)(t b:TypeId)(s x:AV):Spec:=
 match iY ty t,t=b with
 |some (e,E),_=>
  if t=b/\ 0<E.size/\ E.zero.cells.size=E.size then
   match lS σ E.size x with
   |some (a,rd)=>
    match s with
    | .dat (.sc (.slice none 0 0))=>.bR ((a.length:Int)<=140737488355328/\ (a.length:Int)*E.bytes<=140737488355328) rd (.own nm) [(nm,some (.arr e E.size a))]
    | .own o=>
     match σ o with
     |some (.arr e' es l)=>
      if e'=e/\ es=E.size then
       .bR (((l.length+a.length:Nat):Int)<=140737488355328/\ ((l.length+a.length:Nat):Int)*E.bytes<=140737488355328) (o::rd) (.own nm) [(o,none),(nm,some (.arr e E.size (l++a)))]
      else .fail
     |_=>.fail
    | .row o g k j=>oZ σ nm e E o g k j a rd
    |_=>.fail
   |none=>match x with
    | .own c=>qm σ nm e E s c
    |_=>.fail
  else .fail
 |_,_=>.fail

def pR(a:Nat->Option (Nat×Nat)):List AV->List (Nat×AV)->Option (List AV)
 |cells,[]=>some cells
 |cells,(i,x)::c=>
  match a i,x.cells with
  |some (b,size),some cs=>if cs.length=size/\ b+size<=cells.length then pR a (spl cells b cs) c else none
  |_,_=>none

def Cy(ty:TypeId->Option bD)(a:Array Field)(i:Nat):Option (Nat×Nat):=
 match a[i]? with
 |some f=>match ty f.type with
  |some T=>some (f.offset,T.size)
  |none=>none
 |none=>none

def xC(ty:TypeId->Option bD)(t:TypeId)(a:List (Nat×AV)):Spec:=
 match ty t with
 |some {desc:=.struct fs,zero:=z,..}=>
  if fs.all (fun f=>(ty f.type).isSome)/\ z.cells.toList.all one then
   match pR (Cy ty fs) (z.cells.toList.map fun v=>.dat (.sc v)) a with
   |some cells=>.bR True [] (jZ cells) []
   |none=>.fail
  else .fail
 |some {desc:=.array _ e,zero:=z,..}=>
  match ty e with
  |some E=>
   if z.cells.toList.all one then
    match pR (fun i=>some (i*E.size,E.size)) (z.cells.toList.map fun v=>.dat (.sc v)) a with
    |some cells=>.bR True [] (jZ cells) []
    |none=>.fail
   else .fail
  |none=>.fail
 |_=>.fail

def qQ(agg:Bool)(es:Nat):Nat->List (Nat×AV)->Option (List D)
 |_,[]=>some []
 |k,(i,x)::a=>
  if i=k then
   match x.cells with
   |some cs=>
    if cs.length=es then
     match jG cs with
     |some ds=>match qE agg ds,qQ agg es (k+1) a with
      |some d,some r=>some (d::r)
      |_,_=>none
     |none=>none
    else none
   |none=>none
  else none

def rW(ty:TypeId->Option bD):Nat->TypeId->List (Option Nat)
 |0,_=>[]
 |n+1,t=>match ty t with
  |some {desc:=.slice e,..}=>match ty e with
   |some E=>[some E.size]
   |none=>[none]
  |some {desc:=.struct fs,..}=>fs.toList.flatMap fun f=>rW ty n f.type
  |some {desc:=.array k e,..}=>(List.replicate k (rW ty n e)).flatten
  |_=>[none]
def ju2(ty:TypeId->Option bD)(t:TypeId):Bool:=(rW ty 6 t).any Option.isSome
def nA:List (Nat×AV)->List AV
 |(_,x)::_=>(x.cells).getD []
 |[]=>[]
def qX(ty:TypeId->Option bD)(σ:bJ)(nm:Nat)(t:TypeId)(len:Nat)(a:List (Nat×AV)):Spec:=
 match iY ty t with
 |some (e,E)=>
  if a.length=len/\ len*E.size<=16777216/\ 0<E.size/\ E.zero.cells.size=E.size then
   match qQ E.isAgg E.size 0 a with
   |some ds=>.bR True [] (.own nm) [(nm,some (.arr e E.size ds))]
   |none=>if ju2 ty e=true then match lK ty σ nm (jP σ (nA a)) E.isAgg E.size 0 a with
    |some (ds,ns)=>.bR ns.Nodup ns (.own nm) (lU ns++[(nm,some (.tab e E.size (jP σ (nA a)) ds nm none))])
    |none=>.fail
    else .fail
  else .fail
 |none=>.fail

def oG:List (Option Nat)->List D->List D
 |some es::a,.sc (.slice none 0 0)::l=>.sl es []::oG a l
 |_::a,d::l=>d::oG a l
 |_,l=>l
def Bn(a:List (Option Nat)):D->D
 | .agg l=>.agg (oG a l)
 | .sc (.slice none 0 0)=>match a with
  |[some es]=>.sl es []
  |_=>.sc (.slice none 0 0)
 |d=>d
def nN(ty:TypeId->Option bD):List Pt->List TypeId->List D->List D
 | .rd::ls,t::a,d::ds=>Bn (rW ty 6 t) d::nN ty ls a ds
 |_::ls,_::a,d::ds=>d::nN ty ls a ds
 |_,_,ds=>ds

def rY(ty:TypeId->Option bD):Nat->TypeId->List (Option TypeId)
 |0,_=>[]
 |n+1,t=>match ty t with
  |some {desc:=.slice e,..}=>[some e]
  |some {desc:=.struct fs,..}=>fs.toList.flatMap fun f=>rY ty n f.type
  |some {desc:=.array k e,..}=>(List.replicate k (rY ty n e)).flatten
  |_=>[none]
def j3:List (Option TypeId)->List Value->List D->List (Option TypeId)
 |some e::a,.slice none 0 0::vs,.sl (_+1) []::ds=>some e::j3 a vs ds
 |_::a,_::vs,_::ds=>none::j3 a vs ds
 |_,_,_=>[]
def zn(ty:TypeId->Option bD)(nm:Nat)(t:TypeId)(len a:AV):Spec:=
 match iY ty t,fE len,fE a with
 |some (e,E),some (_,n),some (_,c)=>
  if 0<E.size/\ E.zero.cells.size=E.size/\ E.zero.cells.toList.all one then
   match qE E.isAgg (oG (rW ty 6 e) (E.zero.cells.toList.map .sc))with
   |some d=>match (j3 (rY ty 6 e) E.zero.cells.toList d.cells).any Option.isSome with
    |false=>.bR (0<=n/\ n=c/\ n<=140737488355328/\ n*E.bytes<=140737488355328) [] (.own nm) [(nm,some (.arr e E.size (List.replicate n.toNat d)))]
    |true=>.bR (0<=n/\ n=c/\ n<=140737488355328/\ n*E.bytes<=140737488355328) [] (.own nm) [(nm,some (.tab e E.size (j3 (rY ty 6 e) E.zero.cells.toList d.cells) (List.replicate n.toNat d) nm none))]
   |none=>.fail
  else .fail
 |_,_,_=>.fail

def getM(z:D)(k:Int×Int):List ((Int×Int)×D)->D×Bool
 |[]=>(z,false)
 |(k',d)::r=>if k'=k then(d,true)else getM z k r
def pJ(k:Int×Int)(d:D):List ((Int×Int)×D)->List ((Int×Int)×D)
 |[]=>[(k,d)]
 |(k',d')::r=>if k'=k then(k,d)::r else(k',d')::pJ k d r
def yI:AV->Option (Int×Int)
 | .dat (.agg [.sc (.int .i64 a),.sc (.int .i64 b)])=>some (a,b)
 |_=>none
def yc:D->Bool
 | .sc _=>true
 |_=>false
def JJ:D->Bool
 | .agg l=>l.all yc
 |d=>yc d
def wN(ty:TypeId->Option bD)(t:TypeId):Option bD:=
 match ty t with
 |some {desc:=.map k e,..}=>match ty k with
  |some {desc:=.array 2 i,..}=>match ty i with
   |some {desc:=.int .i64,size:=1,..}=>ty e
   |_=>none
  |_=>none
 |_=>none
def sD(σ:bJ):AV->Option (Nat×TypeId×List ((Int×Int)×D))
 | .own o=>match σ o with
  |some (.mp t l)=>some (o,t,l)
  |_=>none
 |_=>none
def xI(ty:TypeId->Option bD)(nm:Nat)(t:TypeId):Spec:=match wN ty t with
 |some _=>.bR True [] (.own nm) [(nm,some (.mp t []))]
 |none=>.fail
def vH(ty:TypeId->Option bD)(σ:bJ)(t:TypeId)(x i:AV):Spec:=match wN ty t,sD σ x,yI i with
 |some E,some (o,_,l),some k=>match (nk E.zero).oF with
  |some z=>.bR True [o] (.tup [.dat (getM z k l).1,.dat (.sc (.bool (getM z k l).2))]) []
  |none=>.fail
 |_,_,_=>.fail
def vI(ty:TypeId->Option bD)(σ:bJ)(t:TypeId)(x i v:AV):Spec:=match wN ty t,sD σ x,yI i,v with
 |some _,some (o,a,l),some k,.dat d=>if JJ d=true then .bR True [o] .und [(o,some (.mp a (pJ k d l)))]else .fail
 |_,_,_,_=>.fail

def pW:Option AV->Option Int
 |none=>some 0
 |some x=>match fE x with|some (_,n)=>some n|none=>none

def rZ:List AV->Option (List D)
 |[]=>some []
 | .dat (.sc v)::r=>(rZ r).map (.sc v:: ·)
 |_::_=>none
def wQ(ty:TypeId->Option bD)(σ:bJ)(n:Nat)(el:TypeId):AV->Spec
 | .ref o 0=>match σ o with
  |some (.box _ cs)=>match ty el,rZ cs with
   |some E,some ds=>if E.size=1/\ ds.length=n/\ n<=8 then .bR True [o] (.dat (.sl 1 ds)) [(o,none)]else .fail
   |_,_=>.fail
  |_=>.fail
 |_=>.fail

def xD(ty:TypeId->Option bD)(σ:bJ)(nm:Nat)(t:TypeId)(x:AV)(lo hi:Option AV):Spec:=
 match ty t,pW lo with
 |some {desc:=.string,..},some l=>
  match jhu x with
  |some s=>
   match hi with
   |none=>.bR (0<=l/\ l<=s.size) [] (.dat (.sc (.string (s.extract l.toNat s.size)))) []
   |some h=>match fE h with
    |some (_,h)=>.bR (0<=l/\ l<=h/\ h<=s.size) [] (.dat (.sc (.string (s.extract l.toNat h.toNat)))) []
    |none=>.fail
  |none=>.fail
 |some {desc:=.array n el,..},some _=>match lo,hi with
  |none,none=>wQ ty σ n el x
  |_,_=>.fail
 |some {desc:=.slice _,..},some l=>
  match iY ty t,x with
  |some (_,E),.dat (.sl es xs)=>
   if es=E.size then
    match hi with
    |none=>.bR (0<=l/\ l<=xs.length) [] (.dat (.sl es (xs.drop l.toNat))) []
    |some h=>match fE h with
     |some (_,h)=>.bR (0<=l/\ l<=h/\ h<=xs.length) [] (.dat (.sl es ((xs.take h.toNat).drop l.toNat))) []
     |none=>.fail
   else .fail
  |some (_,E),.own o=>match σ o with
   |some (.arr el es xs)=>
    if es=E.size then
     match hi with
     |none=>.bR (0<=l/\ l<=xs.length) [o] (.own nm) [(o,none),(nm,some (.arr el es (xs.drop l.toNat)))]
     |some h=>match fE h with
      |some (_,h)=>.bR (0<=l/\ l<=h/\ h<=xs.length) [o] (.own nm) [(o,none),(nm,some (.arr el es ((xs.take h.toNat).drop l.toNat)))]
      |none=>.fail
    else .fail
   |_=>.fail
  |some (_,E),.row o g k j=>match hi with
   |some h=>match fE h with
    |some (_,h)=>qU σ E o g k j l h
    |none=>.fail
   |none=>.fail
  |_,_=>.fail
 |_,_=>.fail

def nM(σ:bJ):AV->Option (D×List Nat)
 | .vw o g k j es lo n=>match gM σ o g with
  |some t=>some (.sl es (((dM t.l k j).2.drop lo).take n),[o])
  |none=>none
 |x=>jL σ x
def mY:List AV->List Nat
 |[]=>[]
 | .own o::l=>o::mY l
 |_::l=>mY l
mutual
def dN(σ:bJ):Pt->AV->Option (D×List Nat×List Nat)
 | .rd,x=>match nM σ x with
  |some (d,rd)=>some (d,[],rd)
  |none=>none
 | .zr,.dat d=>some (d,[],[])
 | .sl,.own o=>some (.sc undef,[o],[])
 | .bx,.ref o 0=>some (.sc undef,[o],[])
 | .bo k,.ref o 0=>match σ o with
  |some (.box _ l)=>bif Nat.beq (mY l).length k then some (.sc undef,o::mY l,[])else none
  |_=>none
 | .ag l,.aggv xs=>match fM σ l xs with
  |some (ds,ns,rd)=>some (.agg ds,ns,rd)
  |none=>none
 | .fn f l,.fn a xs=>match fM σ l xs with
  |some (ds,ns,rd)=>bif Nat.beq f a then some (.agg ds,ns,rd)else none
  |none=>none
 |_,_=>none
def fM(σ:bJ):List Pt->List AV->Option (List D×List Nat×List Nat)
 |[],[]=>some ([],[],[])
 |p::ls,x::xs=>match dN σ p x,fM σ ls xs with
  |some (d,ns,rd),some (ds,a,b)=>some (d::ds,ns++a,rd++b)
  |_,_=>none
 |_,_=>none
end

mutual
def rowP(σ:bJ):Pt->AV->Prop
 | .rd,.vw o g k j es lo n=>match gM σ o g with
  |some t=>fV t.hole j 1=true/\ (dA t.mask j).isSome=true/\ k<t.l.length/\ (dM t.l k j).1=es/\ lo+n<=(dM t.l k j).2.length
  |none=>False
 | .ag l,.aggv xs=>jO σ l xs
 | .fn _ l,.fn _ xs=>jO σ l xs
 |_,_=>True
def jO(σ:bJ):List Pt->List AV->Prop
 |p::ls,x::xs=>rowP σ p x/\ jO σ ls xs
 |_,_=>True
end
def bH.eT(g:Nat):bH->bH
 | .tab e es mask l _ hole=>.tab e es mask l g hole
 | .gF T E l _=>.gF T E l g
 |x=>x
mutual
def AV.ren(f:Nat->Nat):AV->AV
 | .own o=>.own (f o)
 | .ref o i=>.ref (f o) i
 | .eref o es k j=>.eref (f o) es k j
 | .row _ _ _ _| .fH _ _ _ _ _ _ _| .vw _ _ _ _ _ _ _=>.unk
 | .aggv l=>.aggv (jf f l)
 | .tup l=>.tup (jf f l)
 | .fn g l=>.fn g (jf f l)
 | .dat d=>.dat d
 | .fp l=>.fp l
 | .und=>.und
 | .unk=>.unk
def jf(f:Nat->Nat):List AV->List AV
 |[]=>[]
 |x::l=>x.ren f::jf f l
end
def bH.ren(f:Nat->Nat):bH->bH
 | .box T l=>.box T (jf f l)
 |x=>x
def ixN:List Nat->Nat->Nat
 |[],_=>0
 |a::r,n=>bif Nat.beq a n then 0 else ixN r n+1
def oM(σ:bJ)(f:Nat->Nat):List Nat->Option (List bH)
 |[]=>some []
 |o::r=>match σ o,oM σ f r with
  |some x,some l=>some ((x.ren f).eT 0::l)
  |_,_=>none
def oP(σ:bJ)(ns:List Nat):Option (List bH):=oM σ (ixN ns) ns

mutual
def AV.shift(nm:Nat):AV->AV
 | .own o=>.own (nm+o)
 | .ref o i=>.ref (nm+o) i
 | .aggv l=>.aggv (ni nm l)
 | .tup l=>.tup (ni nm l)
 | .dat d=>.dat d
 |_=>.unk
def ni(nm:Nat):List AV->List AV
 |[]=>[]
 |x::l=>x.shift nm::ni nm l
end
def newF(f:Nat->Nat)(nm:Nat):List bH->eP
 |[]=>[]
 |x::r=>(nm,some ((x.ren f).eT nm))::newF f (nm+1) r
def oU(nm:Nat)(l:List bH):eP:=newF (fun j=>nm+j) nm l
def mV(f:Nat->Nat)(g:Nat):List Nat->List bH->eP
 |o::os,x::xs=>(o,some ((x.ren f).eT g))::mV f (g+1) os xs
 |o::os,[]=>(o,none)::mV f (g+1) os []
 |_,_=>[]
def mW(nm:Nat)(ns:List Nat)(m j:Nat):Nat:=bif Nat.blt j m then ns.getD j 0 else nm+(j-m)
def nT(nm k:Nat)(ns:List Nat)(obs:List bH):eP:=mV (mW nm ns obs.length) (nm+k) ns obs

def lW:D->Prop
 | .sc _=>True
 | .agg l=>∀d∈l,∃v,d=.sc v
 | .sl _ _=>False
def uL:AV->Prop
 | .dat d=>lW d
 | .own _=>True
 |_=>False
def jry:AV->Prop
 | .aggv l=>∀x∈l,uL x
 |x=>uL x
def job:AV->Prop
 | .tup l=>∀x∈l,jry x
 |x=>jry x
def yF(mask:List (Option TypeId))(d:D):Prop:=∀(j:Nat)(c:D),d.cells[j]? =some c->match dA mask j with
 |none=>lW c
 |some _=>∀es rows,c=.sl es rows->∀r∈rows,lW r
def lY:bH->Prop
 | .box _ l=>∀x∈l,uL x
 | .arr _ _ l=>∀d∈l,lW d
 | .gF _ _ _ _=>True
 | .mp _ _=>True
 | .tab _ _ mask l _ _=>∀d∈l,yF mask d

def gG(U:Nat->Prop):bH->Prop
 | .box _ l=>bN U l
 | .arr _ _ _=>True
 | .mp _ _=>True
 | .gF _ _ _ g=>U g
 | .tab _ _ _ _ g _=>U g

def jU(L:Nat):bH->Prop
 | .box _ l=>bN (· <L) l
 |_=>True

structure JV(rd:List Nat)(obs:List bH)(r:AV)(new cO:List bH):Prop where
 few:new.length+obs.length<=16
 NP:NB (· <new.length) r
 sw:(∀x∈new,jU new.length x)/\ ∀x∈cO,jU (cO.length+new.length) x
 same:cO.length<=obs.length
 flat:rd=[] \/(job r/\ (∀x∈new,lY x)/\ ∀x∈cO,lY x)

def kD(ty:TypeId->Option bD)(Γ:Nat->Option dJ)(σ:bJ)(nm:Nat)(f:Nat)(args:List AV)(a:List TypeId):Spec:=
 match Γ f with
 |none=>.fail
 |some S=>
  match (fM σ S.lend args).map fun x=>(nN ty S.lend a x.1,x.2.1,x.2.2)with
  |none=>.fail
  |some (ds,ns,rd)=>
   match oP σ ns with
   |none=>.fail
   |some obs=>.call (jO σ S.lend args/\ S.pre ds obs/\ ns.Nodup/\ (∀n∈ns,n∉rd)/\ (∀x∈obs,jU obs.length x)/\ ∀r new cO,S.post ds obs r new cO->JV rd obs r new cO) (ns++rd) (fun av δ=>∃r new cO,S.post ds obs r new cO/\ av=r.shift nm/\ δ=nT nm new.length ns cO++oU nm new)

def vO:D->UInt8
 | .sc (.int _ n)=>UInt8.ofNat n.toNat
 |_=>0
def BN(l:List D):ByteArray:=⟨(l.map vO).toArray⟩
def uW(ty:TypeId->Option bD)(σ:bJ)(nm:Nat)(s d:TypeId)(x:AV):Spec:=
 match ty s,ty d,lS σ 1 x with
 |some {desc:=.slice el,..},some {desc:=.string,..},some (l,rd)=>match ty el with
  |some {desc:=.int .u8,..}=>.bR (∀d∈l,∃b:UInt8,d=.sc (.int .u8 b.toNat)) rd (.dat (.sc (.string (BN l)))) []
  |_=>.fail
 |some {desc:=.string,..},some {desc:=.slice el,..},_=>match jhu x,ty el with
  |some s,some {desc:=.int .u8,..}=>.bR (s.size<=4294967296) [] (.own nm) [(nm,some (.arr (el+4294967296) 1 (s.data.toList.map fun b=>.sc (.int .u8 b.toNat))))]
  |_,_=>.fail
 |_,_,_=>.fail

def spec(ty:TypeId->Option bD)(Γ:Nat->Option dJ)(σ:bJ)(e:Operand->AV)(nm:Nat)(o:Oper):Spec:=
 match o.op with
 | .move x| .assign x=>.bR True [] (e x) []
 | .pick c a b=>match pX (e c)with
  |some t=>.split t (.bR True [] (e a) []) (.bR True [] (e b) [])
  |none=>.fail
 | .alloc t=>match ty t with
  |some T=>match BM ty T with
   |some (el,es,ds)=>.bR True [] (.eref nm es 0 0) [(nm,some (.arr el es ds))]
   |none=>if T.zero.cells.toList.all one then .bR True [] (.ref nm 0) [(nm,some (.box t (T.zero.cells.toList.map fun v=>.dat (.sc v))))]else .fail
  |none=>.fail
 | .box t x=>match (e x).cells with
  |some cs=>.bR True [] (.ref nm 0) [(nm,some (.box t cs))]
  |none=>.fail
 | .load t a=>jQ ty σ t (e a)
 | .store t a x=>nZ ty σ nm t (e a) (e x)
 | .nilCheck x=>match e x with
  | .ref o i=>.bR True [] (.ref o i) []
  | .eref o es k j=>.bR True [] (.eref o es k j) []
  | .fH o g k j es i c=>.bR True [] (.fH o g k j es i c) []
  | .fp l=>.bR True [] (.fp l) []
  |_=>.fail
 | .binOp q t x y _=>uS ty q t (e x) (e y)
 | .unOp .not _ x=>match pX (e x)with
  |some b=>jk (!b)
  |none=>.fail
 | .unOp .neg _ x=>match fE (e x)with
  |some (k,n)=>qH k (0-n)
  |none=>.fail
 | .convert s d x=>match ty s,ty d,fE (e x)with
  |some {desc:=.int _,..},some {desc:=.int k,..},some (_,n)=>.bR True [] (.dat (.sc (.int k (k.wrap n)))) []
  |_,_,_=>uW ty σ nm s d (e x)
 | .slice t x lo hi none=>xD ty σ nm t (e x) (lo.map e) (hi.map e)
 | .fieldAddr s x f=>vk ty s (e x) f
 | .field s x f=>wT ty s (e x) f
 | .indexAddr t x i=>qj ty σ t (e x) (e i)
 | .index t x i=>match ty t,jhu (e x),fE (e i)with
  |some {desc:=.string,..},some s,some (_,n)=>.bR (0<=n/\ n<s.size) [] (.dat (.sc (.int .u8 (s.data.toList.getD n.toNat 0).toNat))) []
  |_,_,_=>yM ty t (e x) (e i)
 | .extract x i=>match e x with
  | .tup l=>match l[i]? with
   |some v=>.bR True [] v []
   |none=>.fail
  |_=>.fail
 | .build t h=>xC ty t (h.toList.map fun p=>(p.1,e p.2))
 | .buildSlice t len h=>qX ty σ nm t len (h.toList.map fun p=>(p.1,e p.2))
 | .makeSlice t l c=>zn ty nm t (e l) (e c)
 | .makeMap t none=>xI ty nm t
 | .lookup t x i true=>vH ty σ t (e x) (e i)
 | .mapUpdate t x i v=>vI ty σ t (e x) (e i) (e v)
 | .call {callee:=.builtin .len,args,argTypes}=>match args.toList,argTypes.toList with
  |[x],[t]=>tu ty σ t (e x)
  |_,_=>.fail
 | .call {callee:=.builtin .append,args,argTypes}=>match args.toList,argTypes.toList with
  |[x,y],[t,r]=>vE ty σ nm t r (e x) (e y)
  |_,_=>.fail
 | .call {callee:=.builtin .max,args,..}=>match args.toList with
  |[x,y]=>match fE (e x),fE (e y)with
   |some (k,a),some (_,b)=>.bR True [] (.dat (.sc (.int k (if b>a then b else a)))) []
   |_,_=>.fail
  |[x,y,z]=>match fE (e x),fE (e y),fE (e z)with
   |some (k,a),some (_,b),some (_,c)=>.bR True [] (.dat (.sc (.int k (if c>(if b>a then b else a)then c else(if b>a then b else a))))) []
   |_,_,_=>.fail
  |_=>.fail
 | .call {callee:=.builtin .min,args,..}=>match args.toList with
  |[x,y]=>match fE (e x),fE (e y)with
   |some (k,a),some (_,b)=>.bR True [] (.dat (.sc (.int k (if b<a then b else a)))) []
   |_,_=>.fail
  |_=>.fail
 | .call {callee:=.value c,args,argTypes}=>match e c with
  | .fn f l=>kD ty Γ σ nm f (args.toList.map e++l) argTypes.toList
  |_=>.fail
 | .makeFunc (.func f) first m=>if first.toList=[]then .bR True [] (.fn f (m.toList.map e)) []else .fail
 |_=>.fail

structure St where
 env:List AV
 ob:bJ
 nx:Nat

def dG(env:List AV):Operand->AV
 | .tmp t=>env.getD t .und
 | .const v=>nk v
 | .global _=>.unk
 | .func f=>.fn f []

def gN(env:List AV)(d:Option Tmp)(v:AV):List AV:=
 match d with
 |some d=>env.set d v
 |none=>env

def qK:Spec:=.bR True [] .und []

def gL(ty:TypeId->Option bD)(Γ:Nat->Option dJ)(ops:Array Oper)(σ:bJ)(env:List AV)(nm:Nat)(o:Oper):Spec:=
 match o.guard with
 |none=>spec ty Γ σ (dG env) nm o
 |some (j,a)=>
  match (ops[j]?).bind (·.dst)with
  |none=>.fail
  |some d=>
   match env.getD d .und with
   | .und=>qK
   | .dat (.sc (.bool b))=>bif a then .split b (spec ty Γ σ (dG env) nm o) qK else .split b qK (spec ty Γ σ (dG env) nm o)
   |_=>.fail

def uP(ty:TypeId->Option bD)(Γ:Nat->Option dJ)(ops:Array Oper)(K:List AV->bJ->Nat->Prop):List Oper->Nat->List AV->bJ->Prop
 |[],nm,env,σ=>K env σ nm
 |o::r,nm,env,σ=>(gL ty Γ ops σ env nm o).T fun av δ=>uP ty Γ ops K r (nm+16) (gN env o.dst av) (app δ σ)

end
section

structure Inv where
 Z:Nat->Prop
 ok:World->Prop
 st:∀w w':World,(∀b,Z b->w'.heap[b]? =w.heap[b]?)->ok w->ok w'
def Inv.none:Inv:=⟨fun _=>False,fun _=>True,fun _ _ _ _=>trivial⟩
structure vV(J:Inv)(F:Nat->Prop)(w:World):Prop where
 ok:J.ok w
 fr:∀b,J.Z b->F b
theorem vV.mono{J:Inv}{F F':Nat->Prop}{w w':World}(h:vV J F w)(hF:∀b,F b->F' b)(hb:∀b,F b->w'.heap[b]? =w.heap[b]?):vV J F' w':=
 ⟨J.st w w' (fun b a=>hb b (h.fr b a)) h.ok,fun b a=>hF b (h.fr b a)⟩

structure Cx where
 K:Nat->Prop
 G:Nat->Prop
 B:Nat
 L:Nat
 κ0:dx
 J:Inv

def iq(F:Nat->Prop)(w:World)(e:TypeId)(es:Nat)(u:Value)(l:List D):Prop:=
 ∃us,Own w e es u l.length us/\ RE F w es l us/\ 0<es

def blk:Value->Option Nat
 | .pointer (some a)=>some a.block
 | .map (some b)=>some b
 | .slice (some a) _ _=>some a.block
 |_=>none

def fU(mask:List (Option TypeId))(n:Nat)(hole:Option (Nat×Nat))(k j:Nat):Prop:=k<n/\ (dA mask j).isSome=true/\ hole≠some (k,j)

structure eB(F:Nat->Prop)(w:World)(e:TypeId)(es:Nat)(mask:List (Option TypeId))(l:List D)(u:Value)(r:Nat->Nat->Value)(hole:Option (Nat×Nat)):Prop where
 pos:0<es
 oH:mask.length<=es
 cells:∀(k:Nat)(d:D),l[k]? =some d->d.cells.length=es
 mem:∃us,Own w e es u l.length us/\ us.length=l.length*es/\ ∀(k:Nat)(d:D)(j:Nat)(c:D),l[k]? =some d->d.cells[j]? =some c->
  ∃x,us[k*es+j]? =some x/\ one x=true/\ match dA mask j with
   |none=>RD F w c x
   |some e'=>x=r k j/\ (hole=some (k,j) \/∃es' rows,c=.sl es' rows/\ iq F w e' es' x rows)
 apart:∀k j k' j',fU mask l.length hole k j->fU mask l.length hole k' j'->(k,j)≠(k',j')->∀b,blk (r k j)=some b->blk (r k' j')≠some b
 outer:∀k j,fU mask l.length hole k j->∀b,blk (r k j)=some b->blk u≠some b

def qJ(w:World)(T E:TypeId)(u v:Value)(l:List UInt8):Prop:=
 ∃b p,u=.pointer (some ⟨b,0,none⟩)/\ w.heap[b]? =some (.cells #[p,v] T (0,0))/\ (p=.pointer none \/p=u)/\ w.ownsRow 0 E 1 v l.length (l.map fun c=>Value.int .u8 c.toNat)/\ blk v≠some b

def MR(w:World):List ((Int×Int)×D)->List MapEntry->Prop
 |[],es=>es=[]
 |(k,d)::l,es=>∃e es',es=e::es'/\ e.key=.agg #[.int .i64 k.1,.int .i64 k.2]/\ RD (fun _=>False) w d e.val/\ MR w l es'
def nP(w:World)(u:Value)(l:List ((Int×Int)×D)):Prop:=
 ∃b es a,u=.map (some b)/\ w.heap[b]? =some (.map es a)/\ MR w l es.toList

def iH(κ:dx)(F:Nat->Prop)(w:World)(o:Nat):bH->Prop
 | .box T l=>∃b arr,(κ o).v=.pointer (some ⟨b,0,none⟩)/\ w.heap[b]? =some (.cells arr T (0,0))/\ bQ κ F w l arr.toList
 | .arr e es l=>iq F w e es (κ o).v l
 | .gF T E l g=>qJ w T E (κ o).v ((κ g).r 0 0) l
 | .mp _ l=>nP w (κ o).v l
 | .tab e es mask l g hole=>eB F w e es mask l (κ o).v (κ g).r hole

def dw(κ:dx)(o:Nat)(x:bH)(b:Nat):Prop:=
 blk (κ o).v=some b \/match x with
  | .gF _ _ _ g=>blk ((κ g).r 0 0)=some b
  | .tab _ _ mask l g hole=>∃k j,fU mask l.length hole k j/\ blk ((κ g).r k j)=some b
  |_=>False

structure dh(cx:Cx)(κ:dx)(F:Nat->Prop)(w:World)(U:Nat->Prop)(σ:bJ):Prop where
 ok:∀o x,σ o=some x->iH κ F w o x
 nb:∀o x,σ o=some x->U o/\ gG U x
 free:∀o x,σ o=some x->∀b,dw κ o x b->¬F b/\ ¬cx.K b/\ cx.G b
 apart:∀o x o' x',σ o=some x->σ o'=some x'->o≠o'->∀b,dw κ o x b->¬dw κ o' x' b
 fG:∀b,F b->cx.G b/\ b<w.heap.size
 kB:∀b,cx.K b->b<cx.B
 gB:∀b,cx.B<=b->cx.G b
 bs:cx.B<=w.heap.size
 inv:vV cx.J F w
 lt:∀j,j<cx.L->U j/\ (κ j).v=(cx.κ0 j).v

def Wy(cx:Cx)(F:Nat->Prop):World->World->Prop:=Wx fun b=>F b \/cx.K b

structure kT(cx:Cx)(κ:dx)(F:Nat->Prop)(w:World)(U:Nat->Prop)(κ':dx)(F':Nat->Prop)(w':World)(U':Nat->Prop)(σ':bJ):Prop where
 pO:∀o,U o->κ' o=κ o
 fr:∀b,F b->F' b
 wx:Wy cx F w w'
 us:∀o,U o->U' o
 gP:dh cx κ' F' w' U' σ'

structure uw(κ:dx)(F:Nat->Prop)(w:World)(U:Nat->Prop)(env:List AV)(a:Act):Prop where
 size:a.tmps.size=env.length
 qp:a.defers=[]
 rv:∀t,RV κ F w (env.getD t .und) (a.tmps.getD t undef)
 nb:∀t,NB U (env.getD t .und)

structure Rel(cx:Cx)(κ:dx)(F:Nat->Prop)(st:St)(a:Act)(w:World):Prop where
 env:uw κ F w (· <st.nx) st.env a
 gP:dh cx κ F w (· <st.nx) st.ob

def Post(cx:Cx)(Q:Exit->St->Prop)(F:Nat->Prop)(w:World)(e:Exit)(a':Act)(w':World):Prop:=
 ∃κ' F' a,Q e a/\ (∀b,F b->F' b)/\ Wy cx F w w'/\ Rel cx κ' F' a a' w'

def Ok(P:Program)(cx:Cx)(c:Code)(Q:Exit->St->Prop)(st:St):Prop:=
 ∀κ F a w,Rel cx κ F st a w->c.wp P (Post cx Q F w) a w

section
variable{P:Program}{cx:Cx}{Q:Exit->St->Prop}{st:St}

theorem Post.lift{e:Exit}{F a:Nat->Prop}{w d:World}{a':Act}{w':World}(hF:∀b,a b->F b)(k:Wy cx a d w)(h:Post cx Q F w e a' w'):Post cx Q a d e a' w':=by
 obtain⟨κ',F',c,f,g,i,j⟩:=h;exact⟨κ',F',c,f,fun b hb=>g b (hF b hb),k.trans i (fun b hb=>hb.imp (hF b) id),j⟩

theorem Ok.mono{c:Code}{d:Exit->St->Prop}(h:Ok P cx c Q st)(i:∀e s,Q e s->d e s):Ok P cx c d st:=
 fun κ F a w j=>wp_mono (h κ F a w j) fun _ _ _ ⟨κ',F',b,f,g⟩=>⟨κ',F',b,i _ _ f,g⟩

theorem Post.here{e:Exit}{κ:dx}{F:Nat->Prop}{a:Act}{w:World}(c:Rel cx κ F st a w)(b:Q e st):Post cx Q F w e a w:=
 ⟨κ,F,st,b,fun _ h=>h,Wx.refl _ _,c⟩

theorem Om(h:Q .normal st):Ok P cx .skip Q st:=fun _ _ _ _ a=>wp_skip (Post.here a h)
theorem Oa(h:Q .ret st):Ok P cx .ret Q st:=fun _ _ _ _ a=>wp_ret (Post.here a h)
theorem jag{id:Nat}(h:Q (.exit id) st):Ok P cx (.exit id) Q st:=fun _ _ _ _ a=>wp_exit (Post.here a h)

def Then(next:St->Prop)(Q:Exit->St->Prop):Exit->St->Prop
 | .normal,s=>next s
 |e,s=>Q e s

theorem jab{x y:Code}(h:Ok P cx x (Then (Ok P cx y Q) Q) st):Ok P cx (.seq x y) Q st:=by
 intro κ F a w j;refine wp_seq (wp_mono (h κ F a w j) ?_);rintro e a' w' ⟨κ',F',b,c,d,f,g⟩;cases e with
 |normal=>exact wp_mono (c κ' F' a' w' g) fun e k l i=>Post.lift d f i
 |_=>exact⟨κ',F',b,c,d,f,g⟩

def qc(id:Nat)(Q:Exit->St->Prop):Exit->St->Prop
 | .exit a,s=>if a=id then Q .normal s else Q (.exit a) s
 |e,s=>Q e s

theorem jaa{id:Nat}{c:Code}(h:Ok P cx c (qc id Q) st):Ok P cx (.block id c) Q st:=by
 intro κ F a w k;refine wp_block (wp_mono (h κ F a w k) ?_);rintro e a' w' ⟨κ',F',d,f,g,i,j⟩;cases e with
 |exit l=>
  simp only[qc]at f;simp only[Exit.inBlock];split
  ·rename_i b;rw[if_pos b]at f;exact⟨κ',F',d,f,g,i,j⟩
  ·rename_i b;rw[if_neg b]at f;exact⟨κ',F',d,f,g,i,j⟩
 |_=>exact⟨κ',F',d,f,g,i,j⟩

theorem qM{F:Nat->Prop}{w:World}:∀{l:List Value},l.all one=true->RC F w (l.map .sc) l
 |[],_=>by simp only[jv];unfold RC;rfl
 |u::l,h=>by
  simp only[List.all_cons,fP]at h;simp only[dX];unfold RC;exact⟨u,l,rfl,h.1,by unfold RD;exact⟨rfl,h.1⟩,qM h.2⟩

theorem RC.nz{F:Nat->Prop}{w:World}:∀(b:List (Option Nat))(l:List D)(us:List Value),RC F w l us->RC F w (oG b l) us
 |[],l,us,h=>by unfold oG;exact h
 |x::b,[],us,h=>by
  have:oG (x::b) []=[]:=by cases x<;>rfl
  rw[this];exact h
 |x::b,d::l,us,h=>by
  have h0:=h;unfold RC at h;obtain⟨u,a,i,j,f,m⟩:=h;have k:=RC.nz b l a m;unfold oG;split
  ·rename_i es g l' c e;cases c;cases e;unfold RC;refine⟨u,a,i,j,?_,k⟩;unfold RD at f ⊢;exact⟨none,0,f.1,dQ _,by unfold maxLen;omega,fun _=>rfl,.inl rfl⟩
  ·rename_i g d' l' _ c e;cases c;cases e;unfold RC;exact⟨u,a,i,j,f,k⟩
  ·rename_i n;exact absurd rfl (n _ _ _ _ rfl)
theorem za{κ:dx}{F:Nat->Prop}{w:World}{U:Nat->Prop}{env:List AV}{a:Act}(h:uw κ F w U env a){x:Operand}:RV κ F w (dG env x) (a.eval x):=by
 cases x with
 |tmp t=>exact h.rv t
 |const v=>
  simp only[dG,Act.eval];cases v
  case agg cs=>
   simp only[nk];split
   ·rename_i b;unfold RV RD;exact⟨cs.toList,rfl,qM b⟩
   ·unfold RV;trivial
  all_goals (simp only[nk];first|(unfold RV;trivial)|(unfold RV RD;exact⟨rfl,rfl⟩))
 |global g=>simp only[dG];unfold RV;trivial
 |func f=>simp only[dG,Act.eval];unfold RV;exact⟨[],rfl,by unfold dz;rfl⟩

theorem Ol{c:Operand}{x y:Code}(b:Bool)(hc:dG st.env c=.dat (.sc (.bool b)))(g:b=true->Ok P cx x Q st)(f:b=false->Ok P cx y Q st):Ok P cx (.cond c x y) Q st:=by
 intro κ F a w e;have d:=za e.env (x:=c);rw[hc]at d;unfold RV RD at d;exact wp_cond_split d.1 (fun h=>g h κ F a w e) (fun h=>f h κ F a w e)

theorem juo{c:Code}(I:Nat->St->Prop)(q:Nat)(h₀:I q st)(f:∀n s,I n s->Ok P cx c (Then (fun s'=>∃i,i<n/\ I i s') Q) s):Ok P cx (.loop c) Q st:=by
 intro κ F a w A;refine wp_loop_ghost (fun n a' w'=>∃κ' F' d,I n d/\ (∀b,F b->F' b)/\ Wy cx F w w'/\ Rel cx κ' F' d a' w') q ⟨κ,F,st,h₀,fun _ h=>h,Wx.refl _ _,A⟩ ?_;rintro n t B ⟨C,r,l,v,j,x,y⟩;refine wp_mono (f n l v C r t B y) ?_;rintro e a' w' ⟨κ',F',d,m,o,u,p⟩;have g:Wy cx F w w':=x.trans u (fun b hb=>hb.imp (j b) id);cases e with
 |normal=>
  obtain⟨i,k,z⟩:=m;exact⟨i,k,κ',F',d,z,fun b hb=>o b (j b hb),g,p⟩
 |_=>exact⟨κ',F',d,m,fun b hb=>o b (j b hb),g,p⟩

end
end
section

def Out(P:Program)(o:Oper)(ρ:Operand->Value)(w:World)(R:Value->World->Prop):Prop:=
 match (execOp ρ o).run P w with
 | .ok (.value v) w'=>R v w'
 | .ok .skip w'=>R undef w'
 | .ok (.enter f args) w'=>Calls P f args w' fun e a=>∃v,e=.returned v/\ R v a
 |_=>False

theorem Out.wp{P:Program}{o:Oper}{a:Act}{w:World}{R:Value->World->Prop}{next:Act->World->Prop}{Q:Exit->Act->World->Prop}
  (h:Out P o a.eval w R) (b:∀v w',R v w'->next (a.put o.dst v) w'):o.wp P a w next Q:=by
 unfold Out at h;unfold Oper.wp;generalize(execOp a.eval o).run P w=r at*
 cases r with
 |halt x w'=>exact h.elim
 |ok n w'=>
  cases n
  case value v=>exact b _ _ h
  case skip=>exact b _ _ h
  case enter f args=>
   simp only[Oper.upon];refine Calls.mono h ?_;rintro e c ⟨v,rfl,hR⟩;exact b _ _ hR
  all_goals exact h.elim

def Un(U:Nat->Prop)(nm:Nat):Nat->Prop:=fun n=>U n \/(nm<=n/\ n<nm+16)

def SR(cx:Cx)(κ:dx)(F:Nat->Prop)(w:World)(U:Nat->Prop)(nm:Nat)(σ:bJ)(s:Spec)(v:Value)(w':World):Prop:=
 ∃av δ κ' F',s.R av δ/\ kT cx κ F w U κ' F' w' (Un U nm) (app δ σ)/\ RV κ' F' w' av v/\ NB (Un U nm) av

section
variable{P:Program}{cx:Cx}{κ:dx}{F:Nat->Prop}{w:World}{U:Nat->Prop}{nm:Nat}{σ:bJ}

theorem fF{o:Nat}(h:U o):Un U nm o:=.inl h

theorem gG.mono{U U':Nat->Prop}(h:∀o,U o->U' o){x:bH}(a:gG U x):gG U' x:=by
 cases x with
 |box T l=>exact bN.mono h a
 |arr e es l=>trivial
 |mp t l=>trivial
 |gF T E l g=>exact h g a
 |tab e es mask l g hole=>exact h g a

theorem dh.un{U':Nat->Prop}(hU:∀o,U o->U' o)(h:dh cx κ F w U σ):dh cx κ F w U' σ:=
 ⟨h.ok,fun o x b=>⟨hU o (h.nb o x b).1,gG.mono hU (h.nb o x b).2⟩,h.free,h.apart,h.fG,h.kB,h.gB,h.bs,h.inv,fun j a=>⟨hU j (h.lt j a).1,(h.lt j a).2⟩⟩

theorem kT.same(h:dh cx κ F w U σ):kT cx κ F w U κ F w (Un U nm) σ:=
 ⟨fun _ _=>rfl,fun _ h=>h,Wx.refl _ _,fun _ h=>fF h,h.un fun _ h=>fF h⟩

theorem fJ(h:dh cx κ F w U σ){p:Prop}{rd:List Nat}{av:AV}{v:Value}(b:RV κ F w av v)(a:NB U av):SR cx κ F w U nm σ (.bR p rd av []) v w:=
 ⟨av,[],κ,F,⟨rfl,rfl⟩,kT.same h,b,NB.mono (fun _ h=>fF h) a⟩

theorem dW{o:Oper}{ρ:Operand->Value}{R:Value->World->Prop}{v:Value}{w':World}(h:(execOp ρ o).run P w=.ok (.value v) w')(a:R v w'):Out P o ρ w R:=by
 unfold Out;rw[h];exact a
theorem xB{o:Oper}{ρ:Operand->Value}{R:Value->World->Prop}{w':World}(h:(execOp ρ o).run P w=.ok .skip w')(a:R undef w'):Out P o ρ w R:=by
 unfold Out;rw[h];exact a

theorem iK(s:Sem Value){v:Value}{w':World}(h:s.run P w=.ok v w'):(do pure (.value (<-s)):Sem Next).run P w=.ok (.value v) w':=by
 simp only[Sem.run_bind,h,Result.andThen_ok,Sem.run_pure]
theorem Gu(s:Sem Unit){w':World}(h:s.run P w=.ok () w'):(do s;pure .skip:Sem Next).run P w=.ok .skip w':=by
 simp only[Sem.run_bind,h,Result.andThen_ok,Sem.run_pure]

theorem tq{b:Nat}{o:Obj}(h:w.heap[b]? =some o):b<w.heap.size:=(Array.getElem?_eq_some_iff.1 h).1

theorem BK{e:TypeId}{es:Nat}{u:Value}{l:List D}(h:iq F w e es u l){b:Nat}(hb:blk u=some b):b<w.heap.size:=by
 obtain⟨us,⟨_,a|⟨g,j,c,d,a,f,_⟩⟩,_⟩:=h
 ·rw[a.1]at hb;simp[blk]at hb
 ·rw[a]at hb;simp[blk]at hb;subst hb;obtain⟨_,_,i,_⟩:=f;exact tq i

theorem iq.mono{F':Nat->Prop}{w':World}{e:TypeId}{es:Nat}{u:Value}{l:List D}(hF:∀b,F b->F' b)(hb:∀b,F b->w'.heap[b]? =w.heap[b]?)(a:∀b,blk u=some b->w'.heap[b]? =w.heap[b]?)
  (h:iq F w e es u l):iq F' w' e es u l:=by
 obtain⟨us,⟨k,f⟩,m,n⟩:=h;refine⟨us,⟨k,?_⟩,RE.mono hF hb m,n⟩;rcases f with f|⟨g,i,c,d,j,o,p⟩
 ·exact .inl f
 ·exact .inr ⟨g,i,c,d,j,o.keep (a g (by rw[j];rfl)),p⟩

theorem eB.row{e:TypeId}{es:Nat}{mask:List (Option TypeId)}{l:List D}{u:Value}{r:Nat->Nat->Value}{hole:Option (Nat×Nat)}(h:eB F w e es mask l u r hole){k j:Nat}(q:fU mask l.length hole k j):
  ∃d e' es' rows,l[k]? =some d/\ dA mask j=some e'/\ d.cells[j]? =some (.sl es' rows)/\ iq F w e' es' (r k j) rows:=by
 obtain⟨i,m,n⟩:=q;obtain⟨us,_,_,hc⟩:=h.mem;have f:l[k]? =some l[k]:=fO i;have g:=h.cells k _ f;obtain⟨e',a⟩:=DV.1 m;have hj:j<mask.length:=by
  rcases jC j mask.length with hj|hj
  ·exact hj
  ·unfold dA at a;rw[lC hj]at a;cases a
 have b:j<l[k].cells.length:=by have:=h.oH;omega
 obtain⟨x,_,_,c⟩:=hc k _ j _ f (fO b);rw[a]at c;rcases c with⟨c,p|⟨es',rows,hd,o⟩⟩
 ·exact absurd p n
 ·subst c;exact⟨_,e',es',rows,f,a,by rw[fO b,hd],o⟩

theorem eB.mono{F':Nat->Prop}{w':World}{e:TypeId}{es:Nat}{mask:List (Option TypeId)}{l:List D}{u:Value}{r:Nat->Nat->Value}{hole:Option (Nat×Nat)}(hF:∀b,F b->F' b)(hb:∀b,F b->w'.heap[b]? =w.heap[b]?)
  (f:∀b,blk u=some b->w'.heap[b]? =w.heap[b]?) (i:∀k j,fU mask l.length hole k j->∀b,blk (r k j)=some b->w'.heap[b]? =w.heap[b]?) (h:eB F w e es mask l u r hole):eB F' w' e es mask l u r hole:=by
 obtain⟨us,⟨y,o⟩,E,hc⟩:=h.mem;refine⟨h.pos,h.oH,h.cells,⟨us,⟨y,?_⟩,E,fun k d j c t hd=>?_⟩,h.apart,h.outer⟩
 ·rcases o with o|⟨g,s,m,n,v,G,H⟩
  ·exact .inl o
  ·exact .inr ⟨g,s,m,n,v,G.keep (f g (by rw[v];rfl)),H⟩
 ·obtain⟨x,z,A,a⟩:=hc k d j c t hd;refine⟨x,z,A,?_⟩;cases q:dA mask j with
  |none=>rw[q]at a;exact RD.mono hF hb a
  |some e'=>
   rw[q]at a;simp only[]at a ⊢;obtain⟨rfl,a⟩:=a;refine⟨rfl,?_⟩;by_cases p:hole=some (k,j)
   ·exact .inl p
   ·rcases a with a|⟨es',rows,B,C⟩
    ·exact absurd a p
    ·refine .inr ⟨es',rows,B,iq.mono hF hb (i k j ⟨(cK.1 t).1,by rw[q];rfl,p⟩) C⟩

theorem kX(h:dh cx κ F w U σ){o:Nat}{x:bH}(A:σ o=some x){b:Nat}(hb:dw κ o x b):b<w.heap.size:=by
 have:=h.ok o x A;cases x with
 |box T l=>
  obtain⟨n,arr,a,c,_⟩:=this;rcases hb with hb|hb
  ·rw[a]at hb;simp[blk]at hb;subst hb;exact tq c
  ·exact hb.elim
 |arr e es l=>
  rcases hb with hb|hb
  ·exact BK this hb
  ·exact hb.elim
 |mp t l=>
  obtain⟨n,es,f,a,c,_⟩:=(show nP w (κ o).v l from this);rcases hb with hb|hb
  ·rw[a]at hb;simp[blk]at hb;subst hb;exact tq c
  ·exact hb.elim
 |gF T E l g=>
  obtain⟨n,p,a,c,_,u,_⟩:=(show qJ w T E (κ o).v ((κ g).r 0 0) l from this);rcases hb with hb|hb
  ·rw[a]at hb;simp[blk]at hb;subst hb;exact tq c
  ·have hb:blk ((κ g).r 0 0)=some b:=hb;rcases u.2 with⟨m,_⟩|⟨D,d,i,m,_,B,_⟩
   ·rw[m]at hb;simp[blk]at hb
   ·rw[m]at hb;simp[blk]at hb;subst hb;exact tq B
 |tab e es mask l g hole=>
  have q:eB F w e es mask l (κ o).v (κ g).r hole:=this;rcases hb with hb|⟨k,j,z,hb⟩
  ·obtain⟨us,⟨_,a|⟨g,C,d,i,a,c,_⟩⟩,_⟩:=q.mem
   ·rw[a.1]at hb;simp[blk]at hb
   ·rw[a]at hb;simp[blk]at hb;subst hb;obtain⟨_,_,s,_⟩:=c;exact tq s
  ·obtain⟨_,_,_,_,_,_,_,y⟩:=q.row z;exact BK y hb

theorem MR.mono{w':World}:∀{l:List ((Int×Int)×D)}{es:List MapEntry},MR w l es->MR w' l es
 |[],_,h=>h
 |(_,_)::_,_,⟨e,es',a,b,c,d⟩=>⟨e,es',a,b,RD.mono (fun _ h=>h) (fun _ h=>h.elim) c,MR.mono d⟩
theorem iH.mono{κ':dx}{F':Nat->Prop}{w':World}{o:Nat}{x:bH}(d:∀o,U o->κ' o=κ o)(hF:∀b,F b->F' b)(hb:∀b,F b->w'.heap[b]? =w.heap[b]?)
  (hU:U o) (u:gG U x) (a:∀b,dw κ o x b->w'.heap[b]? =w.heap[b]?) (h:iH κ F w o x):iH κ' F' w' o x:=by
 cases x with
 |box T l=>
  obtain⟨b,arr,c,i,m⟩:=h;exact⟨b,arr,by rw[d o hU];exact c,by rw[a b (.inl (by rw[c];rfl))];exact i,bQ.mono d hF hb u m⟩
 |gF T E l g=>
  show qJ w' T E (κ' o).v ((κ' g).r 0 0) l;rw[d o hU,d g u];obtain⟨b,p,c,i,m,z,A⟩:=(show qJ w T E (κ o).v ((κ g).r 0 0) l from h);refine⟨b,p,c,by rw[a b (.inl (by rw[c];rfl))];exact i,m,⟨z.1,?_⟩,A⟩;rcases z.2 with n|⟨y,q,s,n,C,D,G⟩
  ·exact .inl n
  ·exact .inr ⟨y,q,s,n,C,by rw[a y (.inr (by show blk ((κ g).r 0 0)=_;rw[n];rfl))];exact D,G⟩
 |mp t l=>
  show nP w' (κ' o).v l;rw[d o hU];obtain⟨b,es,f,c,i,m⟩:=(show nP w (κ o).v l from h);exact⟨b,es,f,c,by rw[a b (.inl (by rw[c];rfl))];exact i,m.mono⟩
 |arr e es l=>
  show iq F' w' e es (κ' o).v l;rw[d o hU];exact iq.mono hF hb (fun b hb=>a b (.inl hb)) h
 |tab e es mask l g hole=>
  show eB F' w' e es mask l (κ' o).v (κ' g).r hole;rw[d o hU,d g u];exact eB.mono hF hb (fun b hb=>a b (.inl hb)) (fun k j B b hb=>a b (.inr ⟨k,j,B,hb⟩)) h

theorem dw.same{κ':dx}{o:Nat}{x:bH}{b:Nat}(i:κ' o=κ o)(f:∀e es mask l g hole,x=.tab e es mask l g hole->κ' g=κ g)(a:∀T E l g,x=.gF T E l g->κ' g=κ g)(h:dw κ' o x b):dw κ o x b:=by
 unfold dw at*
 rw[i]at h;rcases h with h|h
 ·exact .inl h
 ·right;cases x with
  |tab e es mask l g hole=>
   obtain⟨k,j,d,c⟩:=h;rw[f _ _ _ _ _ _ rfl]at c;exact⟨k,j,d,c⟩
  |gF T E l g=>
   have h:blk ((κ' g).r 0 0)=some b:=h;rw[a _ _ _ _ rfl]at h;exact h
  |_=>exact h

theorem dw.pO{κ':dx}{o:Nat}{x:bH}{b:Nat}(a:∀o,U o->κ' o=κ o)(hU:U o)(c:gG U x)(h:dw κ' o x b):dw κ o x b:=
 h.same (a o hU) (fun e es mask l g hole e'=>by subst e';exact a g c) fun T E l g e'=>by subst e';exact a g c

theorem Qa(K:Nat->Prop)(hK:∀b,K b->b<w.heap.size)(o:Obj):Wx K w (w.alloc o):=
 ⟨rfl,rfl,rfl,by simp,fun k a=>Go.RowKit.Below.heap_alloc w o k (hK k a)⟩

theorem Co{nm:Nat}(a:¬U nm)(v:KV):∀o,U o->(fun n=>if n=nm then v else κ n) o=κ o:=by
 intro o b;have:o≠nm:=fun e=>a (e▸b);simp[this]

abbrev kv(v:Value):KV:=⟨v,fun _ _=>undef⟩
theorem zi{κ':dx}{o:Nat}{x:bH}{v:Value}{s b:Nat}(c:∀e es mask l g hole,x≠.tab e es mask l g hole)(a:∀T E l g,x≠.gF T E l g)(hs:blk v=some s)(h:κ' o=kv v)(hb:dw κ' o x b):b=s:=by
 rcases hb with hb|hb
 ·rw[h]at hb;exact(gT (hs.symm.trans hb)).symm
 ·cases x with
  |tab e es mask l g hole=>exact absurd rfl (c _ _ _ _ _ _)
  |gF T E l g=>exact absurd rfl (a _ _ _ _)
  |_=>exact hb.elim

theorem iP(o:Nat)(x:Option bH):upd σ o x o=x:=by simp[upd]
theorem jq{o n:Nat}(h:n≠o)(x:Option bH):upd σ o x n=σ n:=by
 have:Nat.beq n o=false:=by
  cases hb:Nat.beq n o with
  |true=>exact absurd (eG hb) h
  |false=>rfl
 simp[upd,this]

theorem Ii(h:dh cx κ F w U σ)(D:¬U nm){x:bH}{ob:Obj}{v:KV}(G:∀κ' b,κ' nm=v->dw κ' nm x b->b=w.heap.size)
  (t:∀κ',κ' nm=v->(∀o,U o->κ' o=κ o)->iH κ' F (w.alloc ob) nm x) (E:gG U x):
  kT cx κ F w U (fun n=>if n=nm then v else κ n) F (w.alloc ob) (Un U nm) (upd σ nm (some x)):=by
 have l:=Co (κ:=κ) D v;have k:∀b,F b->(w.alloc ob).heap[b]? =w.heap[b]?:=fun b hb=>Go.RowKit.Below.heap_alloc w _ b (h.fG b hb).2;have g:∀o y,upd σ nm (some x) o=some y->o≠nm->σ o=some y:=fun o y d a=>by rwa [jq a]at d
 have f:∀o y,upd σ nm (some x) o=some y->∀b,dw (fun n=>if n=nm then v else κ n) o y b->
   (o=nm/\ b=w.heap.size) \/(o≠nm/\ σ o=some y/\ dw κ o y b/\ b<w.heap.size):=fun o y d b hb=>by
  by_cases a:o=nm
  ·subst a;rw[iP]at d;cases d;exact .inl ⟨rfl,G _ b (by simp) hb⟩
  ·have c:=g o y d a;have i:=h.nb o y c;have e:=hb.pO l i.1 i.2;exact .inr ⟨a,c,e,kX h c e⟩
 refine⟨l,fun _ hb=>hb,Qa _ (fun b hb=>?_) _,fun _ m=>fF m,?_,?_,?_,?_,fun b hb=>⟨(h.fG b hb).1,by have:=(h.fG b hb).2;simp;omega⟩,h.kB,h.gB,by have:=h.bs;simp;omega,h.inv.mono (fun _ hb=>hb) k,fun j s=>⟨fF (h.lt j s).1,(congrArg KV.v (l j (h.lt j s).1)).trans (h.lt j s).2⟩⟩
 ·rcases hb with hb|hb
  ·exact(h.fG b hb).2
  ·exact kH (h.kB b hb) h.bs
 ·intro o y d;by_cases a:o=nm
  ·subst a;rw[iP]at d;cases d;exact t _ (by simp) l
  ·have c:=g o y d a;have i:=h.nb o y c;exact iH.mono l (fun _ hb=>hb) k i.1 i.2 (fun b hb=>Go.RowKit.Below.heap_alloc w _ b (kX h c hb)) (h.ok o y c)
 ·intro o y d;by_cases a:o=nm
  ·subst a;rw[iP]at d;cases d;exact⟨.inr ⟨dQ _,by omega⟩,gG.mono (fun _ m=>fF m) E⟩
  ·have i:=h.nb o y (g o y d a);exact⟨fF i.1,gG.mono (fun _ m=>fF m) i.2⟩
 ·intro o y d b hb;rcases f o y d b hb with⟨_,rfl⟩|⟨_,c,e,_⟩
  ·exact⟨fun hF=>by have:=(h.fG _ hF).2;omega,fun hK=>by have:=h.kB _ hK;have:=h.bs;omega,h.gB _ h.bs⟩
  ·exact h.free o y c b e
 ·intro o y o' u d c a b hb e;rcases f o y d b hb with⟨z,I⟩|⟨z,B,C,H⟩
  ·rcases f o' u c b e with⟨p,A⟩|⟨p,_,_,A⟩
   ·exact a (z.trans p.symm)
   ·omega
  ·rcases f o' u c b e with⟨p,A⟩|⟨p,q,r,_⟩
   ·omega
   ·exact h.apart o y o' u B q a b C r

theorem Cj(h:dh cx κ F w U σ)(d:¬U nm){x:bH}{c:Array Value}{e:TypeId}{v:KV}(g:∀κ' b,κ' nm=v->dw κ' nm x b->b=w.heap.size)
  (a:∀κ',κ' nm=v->(∀o,U o->κ' o=κ o)->iH κ' F (w.alloc (.cells c e)) nm x) (f:gG U x):
  kT cx κ F w U (fun n=>if n=nm then v else κ n) F (w.alloc (.cells c e)) (Un U nm) (upd σ nm (some x)):=Ii h d g a f

theorem zP(h:dh cx κ F w U σ){o:Nat}{x y:bH}(s:σ o=some x){w':World}(C:w'.os=w.os)(m:w'.tape=w.tape)(p:w'.output=w.output)(d:w.heap.size<=w'.heap.size)
  (c:∀b,b<w.heap.size->¬dw κ o x b->w'.heap[b]? =w.heap[b]?) (q:∀b,dw κ o y b->dw κ o x b) (B:iH κ F w' o y) (O:gG U y):
  kT cx κ F w U κ F w' (Un U nm) (upd σ o (some y)):=by
 have H:∀b,dw κ o x b->¬F b/\ ¬cx.K b/\ cx.G b:=h.free o x s;have l:∀b,F b->w'.heap[b]? =w.heap[b]?:=fun b hb=>c b (h.fG b hb).2 fun e=>(H b e).1 hb;have k:∀o' z,upd σ o (some y) o'=some z->o'≠o->σ o'=some z:=fun o' z g a=>by rwa [jq a]at g
 have f:∀o' z,upd σ o (some y) o'=some z->∃t,σ o'=some t/\ ∀b,dw κ o' z b->dw κ o' t b:=fun o' z g=>by
  by_cases a:o'=o
  ·subst a;rw[iP]at g;cases g;exact⟨x,s,q⟩
  ·exact⟨z,k o' z g a,fun _ h=>h⟩
 refine⟨fun _ _=>rfl,fun _ hb=>hb,⟨C,m,p,d,fun b hb=>?_⟩,fun _ n=>fF n,?_,?_,?_,?_,fun b hb=>⟨(h.fG b hb).1,kH (h.fG b hb).2 d⟩,h.kB,h.gB,pz h.bs d,h.inv.mono (fun _ hb=>hb) l,fun j I=>⟨fF (h.lt j I).1,(h.lt j I).2⟩⟩
 ·rcases hb with hb|hb
  ·exact l b hb
  ·exact c b (kH (h.kB b hb) h.bs) fun e=>(H b e).2.1 hb
 ·intro o' z g;by_cases a:o'=o
  ·subst a;rw[iP]at g;cases g;exact B
  ·have i:=k o' z g a;have r:=h.nb o' z i;exact iH.mono (fun _ _=>rfl) (fun _ hb=>hb) l r.1 r.2 (fun b hb=>c b (kX h i hb) fun e=>h.apart o x o' z s i (Ne.symm a) b e hb) (h.ok o' z i)
 ·intro o' z g;by_cases a:o'=o
  ·subst a;rw[iP]at g;cases g;exact⟨fF (h.nb o' x s).1,gG.mono (fun _ n=>fF n) O⟩
  ·have r:=h.nb o' z (k o' z g a);exact⟨fF r.1,gG.mono (fun _ n=>fF n) r.2⟩
 ·intro o' z g b hb;obtain⟨t,i,hs⟩:=f o' z g;exact h.free o' t i b (hs b hb)
 ·intro J R L S M N a b hb A;obtain⟨D,u,s1⟩:=f J R M;obtain⟨E,v,Q⟩:=f L S N;exact h.apart J D L E u v a b (s1 b hb) (Q b A)

theorem jku{p:Prop}{rd:List Nat}{x:bH}{κ':dx}{w':World}(h:kT cx κ F w U κ' F w' (Un U nm) (upd σ nm (some x))){av:AV}{v:Value}(b:RV κ' F w' av v)(a:NB (Un U nm) av):
  SR cx κ F w U nm σ (.bR p rd av [(nm,some x)]) v w':=
 ⟨av,_,κ',F,⟨rfl,rfl⟩,h,b,a⟩

theorem BZ(o i:Nat)(h:Un U nm o):NB (Un U nm) (.ref o i):=by unfold NB;exact h
theorem jA(o:Nat)(h:Un U nm o):NB (Un U nm) (.own o):=by unfold NB;exact h

theorem fI:Un U nm nm:=.inr ⟨dQ _,by omega⟩

theorem y9:∀{l:List D},bN U (l.map .dat)
 |[]=>by simp only[jv];unfold bN;trivial
 |d::l=>by simp only[dX];unfold bN;exact⟨by unfold NB;trivial,y9⟩

theorem Ig{l:List D}{us:List Value}(h:RC F w l us):bQ κ F w (l.map .dat) us:=by
 induction l generalizing us with
 |nil=>unfold RC at h;simp only[jv];unfold bQ;exact h
 |cons d l g=>
  unfold RC at h;obtain⟨u,a,b,c,e,f⟩:=h;simp only[dX];unfold bQ;exact⟨u,a,b,c,by unfold RV;exact e,g f⟩

theorem PV{v:Value}(h:one v=true):v.cells= #[v]:=by
 cases v<;>simp_all[one,Value.cells]

theorem Gs{d:D}{v:Value}(h:RD F w d v)(hd:∀l,d≠.agg l):one v=true:=by
 cases d with
 |sc u=>unfold RD at h;rw[h.1];exact h.2
 |sl es l=>unfold RD at h;obtain⟨a,b,c,_⟩:=h;rw[c];rfl
 |agg l=>exact absurd rfl (hd l)

theorem qR{x:AV}{cs:List AV}{v:Value}(h:x.cells=some cs)(q:RV κ F w x v)(r:NB U x):bQ κ F w cs v.cells.toList/\ bN U cs:=by
 have e:∀{y:AV},one v=true->RV κ F w y v->NB U y->bQ κ F w [y] v.cells.toList/\ bN U [y]:=fun{y} p t z=>by
  rw[PV p];exact⟨by unfold bQ;exact⟨v,[],rfl,p,t,by unfold bQ;rfl⟩,by unfold bN;exact⟨z,by unfold bN;trivial⟩⟩
 cases x with
 |dat d=>
  cases d with
  |agg l=>
   simp only[AV.cells,bU]at h;subst h;unfold RV RD at q;obtain⟨c,rfl,hc⟩:=q;exact⟨Ig hc,y9⟩
  |sc u=>
   simp only[AV.cells,bU]at h;subst h;exact e (Gs (by unfold RV at q;exact q) (by simp)) q r
  |sl es l=>
   simp only[AV.cells,bU]at h;subst h;exact e (Gs (by unfold RV at q;exact q) (by simp)) q r
 |own o=>
  simp only[AV.cells,bU]at h;subst h;have p:=q;unfold RV at p;exact e p.2 q r
 |ref o i=>
  simp only[AV.cells,bU]at h;subst h;have p:=q;unfold RV at p;obtain⟨b,_,rfl⟩:=p;exact e rfl q r
 |eref o es k j=>
  simp only[AV.cells,bU]at h;subst h;have p:=q;unfold RV at p;obtain⟨b,f,n,s,_,rfl⟩:=p;exact e rfl q r
 |row o g k j=>
  simp only[AV.cells,bU]at h;subst h;have p:=q;unfold RV at p;exact e p.2 q r
 |fH o g k j es i c=>
  simp only[AV.cells,bU]at h;subst h;have p:=q;unfold RV at p;obtain⟨b,f,n,s,_,rfl⟩:=p;exact e rfl q r
 |vw o g k j es lo n=>
  simp only[AV.cells,bU]at h;subst h;have p:=q;unfold RV at p;obtain⟨a,m,s,_,_,_,_,rfl⟩:=p;exact e rfl q r
 |fp l=>
  simp only[AV.cells,bU]at h;subst h;have p:=q;unfold RV at p;obtain⟨b,A,us,rfl,_⟩:=p;exact e rfl q r
 |aggv l=>
  simp only[AV.cells,bU]at h;subst h;unfold RV at q;unfold NB at r;obtain⟨c,rfl,hc⟩:=q;exact⟨hc,r⟩
 |tup l=>simp[AV.cells]at h
 |fn f l=>
  simp only[AV.cells,bU]at h;subst h;have p:=q;unfold RV at p;obtain⟨cs,rfl,_⟩:=p;exact e rfl q r
 |und=>simp[AV.cells]at h
 |unk=>simp[AV.cells]at h

end
end
section
section
variable{P:Program}{cx:Cx}{κ:dx}{F:Nat->Prop}{w:World}{U:Nat->Prop}{nm:Nat}{σ:bJ}{ty:TypeId->Option bD}{Γ:Nat->Option dJ}

def dP(P:Program)(cx:Cx)(κ:dx)(F:Nat->Prop)(w:World)(U:Nat->Prop)(nm:Nat)(σ:bJ)(o:Oper)(ρ:Operand->Value)(s:Spec):Prop:=
 s.pre->Out P o ρ w (SR cx κ F w U nm σ s)

theorem jm{t:TypeId}{x:bD}(h:bS P t x):(sizeOf t).run P w=.ok x.size w:=by
 obtain⟨_,i,a,b,c,d,_⟩:=h;simp[sizeOf,typeInfo,a,b]
theorem vB{t:TypeId}{x:bD}(h:bS P t x):(zeroValue t).run P w=.ok x.zero w:=by
 obtain⟨_,i,a,c,d,b,_⟩:=h;simp[zeroValue,typeInfo,a,b]
theorem nC{t:TypeId}{x:bD}(h:bS P t x):(isAgg t).run P w=.ok x.isAgg w:=by
 obtain⟨h0,_⟩:=h;simp only[isAgg,Sem.run_bind,run_underlying h0,Result.andThen_ok];unfold bD.isAgg;cases x.desc<;>rfl

theorem vC(e:TypeId)(c:Array Value):(newRow e c).run P w=.ok ⟨w.heap.size,0,none⟩ (w.alloc (.cells c e)):=by
 simp[newRow,newObj,Sem.run]

theorem CG{l:List Value}(h:l.all one=true):bQ κ F w (l.map fun v=>.dat (.sc v)) l:=by
 have:=Ig (κ:=κ) (qM (F:=F) (w:=w) h)
 rwa [uf]at this

theorem uR{l:List Value}:bN U (l.map fun v=>AV.dat (.sc v)):=by
 have:=y9 (U:=U) (l:=l.map .sc)
 rwa [uf]at this

theorem G8(h:dh cx κ F w U σ)(i:¬U nm){cs:List AV}{c:Array Value}{e:TypeId}(hc:bQ κ F w cs c.toList)(d:bN U cs){p:Prop}{rd:List Nat}:
  SR cx κ F w U nm σ (.bR p rd (.ref nm 0) [(nm,some (.box e cs))]) (.pointer (some ⟨w.heap.size,0,none⟩)) (w.alloc (.cells c e)):=by
 have a:∀b,F b->(w.alloc (.cells c e)).heap[b]? =w.heap[b]?:=fun b hb=>Go.RowKit.Below.heap_alloc w _ b (h.fG b hb).2;refine jku (Cj h i (x:=.box e cs) (v:=kv (.pointer (some ⟨w.heap.size,0,none⟩))) (fun κ' b e hb=>zi (by intros;simp) (by intros;simp) rfl e hb) ?_ d) ?_ (BZ _ _ fI)
 ·intro κ' f g;exact⟨w.heap.size,c,by rw[f],heap_alloc_new w _,bQ.mono g (fun _ hb=>hb) a d hc⟩
 ·unfold RV;exact⟨w.heap.size,by simp,rfl⟩

theorem GU(h:dh cx κ F w U σ)(i:¬U nm){ds:List D}{c:Array Value}{e eb:TypeId}{es:Nat}(hc:RE F w es ds c.toList)(d:0<es)(j:ds.length<=maxLen){p:Prop}{rd:List Nat}:
  SR cx κ F w U nm σ (.bR p rd (.own nm) [(nm,some (.arr e es ds))]) (.slice (some ⟨w.heap.size,0,none⟩) ds.length ds.length) (w.alloc (.cells c eb)):=by
 have a:∀b,F b->(w.alloc (.cells c eb)).heap[b]? =w.heap[b]?:=fun b hb=>Go.RowKit.Below.heap_alloc w _ b (h.fG b hb).2;refine jku (Cj h i (x:=.arr e es ds) (v:=kv (.slice (some ⟨w.heap.size,0,none⟩) ds.length ds.length)) (fun κ' b e hb=>zi (by intros;simp) (by intros;simp) rfl e hb) ?_ trivial) ?_ (jA _ fI)
 ·intro κ' g k;have f:=hc.length;refine⟨c.toList,⟨f,.inr ⟨w.heap.size,0,ds.length,c,by rw[g],⟨_,_,heap_alloc_new w _,.inl rfl⟩,dQ _,j,by rw[<-iF,f];omega,?_⟩⟩,RE.mono (fun _ hb=>hb) a hc,d⟩;rw[uj];exact iw (by omega)
 ·unfold RV;exact⟨by simp,rfl⟩

theorem Px(h:dh cx κ F w U σ)(i:¬U nm){ds:List D}{c:Array Value}{e eb:TypeId}{es:Nat}(hc:RE F w es ds c.toList)(d:0<es)(j:ds.length<=maxLen){p:Prop}{rd:List Nat}:
  SR cx κ F w U nm σ (.bR p rd (.eref nm es 0 0) [(nm,some (.arr e es ds))]) (.pointer (some ⟨w.heap.size,0,none⟩)) (w.alloc (.cells c eb)):=by
 have a:∀b,F b->(w.alloc (.cells c eb)).heap[b]? =w.heap[b]?:=fun b hb=>Go.RowKit.Below.heap_alloc w _ b (h.fG b hb).2;refine jku (Cj h i (x:=.arr e es ds) (v:=kv (.slice (some ⟨w.heap.size,0,none⟩) ds.length ds.length)) (fun κ' b e hb=>zi (by intros;simp) (by intros;simp) rfl e hb) ?_ trivial) ?_ (by unfold NB;exact fI)
 ·intro κ' g k;have f:=hc.length;refine⟨c.toList,⟨f,.inr ⟨w.heap.size,0,ds.length,c,by rw[g],⟨_,_,heap_alloc_new w _,.inl rfl⟩,dQ _,j,by rw[<-iF,f];omega,?_⟩⟩,RE.mono (fun _ hb=>hb) a hc,d⟩;rw[uj];exact iw (by omega)
 ·unfold RV;exact⟨w.heap.size,0,ds.length,ds.length,by simp,by simp⟩

theorem Ht{agg:Bool}{es:Nat}:∀{n:Nat}{l:List Value}{ds:List D},uM agg es n l=some ds->RE F w es ds l/\ ds.length=n
 |0,[],ds,h=>by unfold uM at h;cases h;exact⟨by unfold RE;rfl,rfl⟩
 |0,_::_,ds,h=>by unfold uM at h;cases h
 |n+1,l,ds,h=>by
  unfold uM at h;split at h
  ·rename_i c;split at h
   ·rename_i d r hd i;cases h;obtain⟨f,g⟩:=Ht i;have b:d.cells=(l.take es).map .sc:=by
     unfold qE at hd;split at hd
     ·cases hd;rfl
     ·split at hd
      ·rename_i d' a;cases hd;rw[a];cases e:l.take es with
       |nil=>rw[e]at a;cases a
       |cons v j=>
        rw[e]at a;simp only[dX,ig]at a;rw[<-a.1];rfl
      ·cases hd
    refine⟨?_,by simp[g]⟩;have:=RE.mk (F:=F) (w:=w) (d:=d) c.1 (by rw[b];exact qM c.2) f
    rwa [l9]at this
   ·cases h
  ·cases h

theorem PS{T:bD}{el:TypeId}{es:Nat}{ds:List D}(h:BM ty T=some (el,es,ds)):RE F w es ds T.zero.cells.toList/\ 0<es/\ ds.length<=maxLen:=by
 unfold BM at h;split at h
 ·split at h
  ·rename_i g;split at h
   ·split at h
    ·rename_i d;rw[kG]at h;obtain⟨a,e,f⟩:=h;cases f;obtain⟨b,c⟩:=Ht (F:=F) (w:=w) e;exact⟨b,d,by rw[c];unfold maxLen;omega⟩
    ·cases h
   ·cases h
  ·cases h
 ·cases h

theorem Rs(c:∀t x,ty t=some x->bS P t x)(h:dh cx κ F w U σ)(d:¬U nm){o:Oper}{ρ:Operand->Value}{e:Operand->AV}{t:TypeId}(f:o.op=.alloc t):
  dP P cx κ F w U nm σ o ρ (spec ty Γ σ e nm o):=by
 unfold dP spec;simp only[f];cases hT:ty t with
 |none=>intro b;exact b.elim
 |some T=>
  simp only[];have a:(execOp ρ o).run P w=.ok (.value (.pointer (some ⟨w.heap.size,0,none⟩))) (w.alloc (.cells T.zero.cells t)):=by
   unfold execOp;simp only[f];refine iK _ ?_;simp only[Instr.alloc,Sem.run_bind,vB (c t T hT),Result.andThen_ok,newVar,vC,Sem.run_pure]
  split
  ·rename_i el es ds hb;intro _;obtain⟨g,i,j⟩:=PS (F:=F) (w:=w) hb;exact dW a (Px h d g i j)
  ·split
   ·rename_i k;intro _;exact dW a (G8 h d (CG k) uR)
   ·intro b;exact b.elim

theorem Qz(h:dh cx κ F w U σ)(f:¬U nm){o:Oper}{ρ:Operand->Value}{e:Operand->AV}(d:∀x,RV κ F w (e x) (ρ x))(g:∀x,NB U (e x)){t:TypeId}{x:Operand}(a:o.op=.box t x):
  dP P cx κ F w U nm σ o ρ (spec ty Γ σ e nm o):=by
 unfold dP spec;simp only[a];cases hc:(e x).cells with
 |none=>intro i;exact i.elim
 |some cs=>
  intro _;obtain⟨b,c⟩:=qR hc (d x) (g x);refine dW (v:=.pointer (some ⟨w.heap.size,0,none⟩)) (w':=w.alloc (.cells (ρ x).cells t)) ?_ (G8 h f b c);unfold execOp;simp only[a];refine iK _ ?_;simp only[Instr.box,Sem.run_bind,newVar,vC,Result.andThen_ok,Sem.run_pure]

theorem Je(h:dh cx κ F w U σ){o:Oper}{ρ:Operand->Value}{e:Operand->AV}(a:∀x,RV κ F w (e x) (ρ x))(b:∀x,NB U (e x)){x:Operand}(ho:o.op=.move x \/o.op=.assign x):
  dP P cx κ F w U nm σ o ρ (spec ty Γ σ e nm o):=by
 unfold dP spec;rcases ho with ho|ho<;>
 ·simp only[ho];intro _;refine dW (v:=ρ x) (w':=w) ?_ (fJ h (a x) (b x));unfold execOp;simp only[ho,Sem.run_pure]

theorem Rl{x:AV}{b:Bool}(h:pX x=some b):x=.dat (.sc (.bool b)):=by
 unfold pX at h;split at h
 ·simpa using h
 ·cases h
theorem QK{x:AV}{k:IntKind}{n:Int}(h:fE x=some (k,n)):x=.dat (.sc (.int k n)):=by
 unfold fE at h;split at h
 ·simpa using h
 ·cases h
theorem QL{x:AV}{b:ByteArray}(h:jhu x=some b):x=.dat (.sc (.string b)):=by
 unfold jhu at h;split at h
 ·simpa using h
 ·cases h
theorem zm{x:AV}{b:Bool}{v:Value}(h:pX x=some b)(a:RV κ F w x v):v=.bool b:=by
 rw[Rl h]at a;unfold RV RD at a;exact a.1
theorem jl{x:AV}{k:IntKind}{n:Int}{v:Value}(h:fE x=some (k,n))(a:RV κ F w x v):v=.int k n:=by
 rw[QK h]at a;unfold RV RD at a;exact a.1
theorem uQ{x:AV}{b:ByteArray}{v:Value}(h:jhu x=some b)(a:RV κ F w x v):v=.string b:=by
 rw[QL h]at a;unfold RV RD at a;exact a.1

theorem oO(d:D):NB U (.dat d):=by unfold NB;trivial
theorem N9{v:Value}(h:one v=true):RV κ F w (.dat (.sc v)) v:=by unfold RV RD;exact⟨rfl,h⟩

theorem BG(h:dh cx κ F w U σ){p:Prop}{rd:List Nat}{v:Value}(a:one v=true):SR cx κ F w U nm σ (.bR p rd (.dat (.sc v)) []) v w:=
 fJ h (N9 a) (oO _)

theorem R3{s t:Spec}{v:Value}{w':World}{b:Bool}(hb:b=true)(h:SR cx κ F w U nm σ s v w'):SR cx κ F w U nm σ (.split b s t) v w':=by
 subst hb;exact h
theorem Sv{s t:Spec}{v:Value}{w':World}{b:Bool}(hb:b=false)(h:SR cx κ F w U nm σ t v w'):SR cx κ F w U nm σ (.split b s t) v w':=by
 subst hb;exact h

theorem Q5(h:dh cx κ F w U σ){o:Oper}{ρ:Operand->Value}{e:Operand->AV}(d:∀x,RV κ F w (e x) (ρ x))(g:∀x,NB U (e x)){c a b:Operand}(f:o.op=.pick c a b):
  dP P cx κ F w U nm σ o ρ (spec ty Γ σ e nm o):=by
 unfold dP spec;simp only[f];cases hb:pX (e c)with
 |none=>intro j;exact j.elim
 |some t=>
  intro _;have i:=zm hb (d c);cases t with
  |true=>
   refine dW (v:=ρ a) (w':=w) ?_ (R3 rfl (fJ h (d a) (g a)));unfold execOp;simp[f,i,asBool]
  |false=>
   refine dW (v:=ρ b) (w':=w) ?_ (Sv rfl (fJ h (d b) (g b)));unfold execOp;simp[f,i,asBool]

theorem Pz{r:Int}(h: -9223372036854775808<=r/\ r<=9223372036854775807):IntKind.i64.wrap r=r:=by
 rw[IntKind.wrap_i64];omega

theorem zW(h:dh cx κ F w U σ){o:Oper}{ρ:Operand->Value}{k:IntKind}{r:Int}(a:(execOp ρ o).run P w=.ok (.value (.int k (k.wrap r))) w):dP P cx κ F w U nm σ o ρ (qH k r):=by
 intro _;exact dW a (BG h rfl)

theorem kZ(h:dh cx κ F w U σ){o:Oper}{ρ:Operand->Value}{b:Bool}(a:(execOp ρ o).run P w=.ok (.value (.bool b)) w):dP P cx κ F w U nm σ o ρ (jk b):=
 fun _=>dW a (BG h rfl)

theorem jr(h:dh cx κ F w U σ){o:Oper}{ρ:Operand->Value}{p:Prop}{rd:List Nat}{v:Value}(a:one v=true)(c:p->(execOp ρ o).run P w=.ok (.value v) w):dP P cx κ F w U nm σ o ρ (.bR p rd (.dat (.sc v)) []):=
 fun b=>dW (c b) (BG h a)

theorem jqw(c:BinOp)(t:TypeId)(x y:Operand){k k':IntKind}{a b:Int}:(eqGuard c t x y (.int k a) (.int k' b)).run P w=.ok () w:=by
 unfold eqGuard;split<;>simp
theorem Qd(c:BinOp)(t:TypeId)(x y:Operand){a b:ByteArray}:(eqGuard c t x y (.string a) (.string b)).run P w=.ok () w:=by
 unfold eqGuard;split<;>simp
theorem Jc(c:BinOp)(t:TypeId)(x y:Operand){a b:Bool}:(eqGuard c t x y (.bool a) (.bool b)).run P w=.ok () w:=by
 unfold eqGuard;split<;>simp

theorem Jq{t:TypeId}(c:P.underlying t=some .bool)(a b:Bool):(Op.equal t (.bool a) (.bool b)).run P w=.ok (a==b) w:=by
 have:∀d,(Op.equalIn (d+1) t (.bool a) (.bool b)).run P w=.ok (a==b) w:=fun d=>by simp only[Op.equalIn,Sem.run_bind,run_underlying c,Result.andThen_ok,Sem.run_pure]
 exact this 9999

theorem jsh(c:BinOp)(t:TypeId)(x y:Operand){a b:Option Addr}:(eqGuard c t x y (.pointer a) (.pointer b)).run P w=.ok () w:=by
 unfold eqGuard;split<;>simp
theorem Qw{t el:TypeId}(b:P.underlying t=some (.pointer el))(a:Option Addr):(Op.equal t (.pointer a) (.pointer none)).run P w=.ok a.isNone w:=by
 have:∀d,(Op.equalIn (d+1) t (.pointer a) (.pointer none)).run P w=.ok a.isNone w:=fun d=>by
  cases a<;>simp[Op.equalIn,Sem.run_bind,run_underlying b]
 exact this 9999
theorem HV(e:BinOp)(t:TypeId)(x y:Operand){a a':Option Addr}{n c d b:Nat}:(eqGuard e t x y (.slice a n c) (.slice a' d b)).run P w=.ok () w:=by
 unfold eqGuard;split<;>simp
theorem I6{t el:TypeId}(b:P.underlying t=some (.slice el))(a:Option Addr)(n c:Nat):(Op.equal t (.slice a n c) (.slice none 0 0)).run P w=.ok a.isNone w:=by
 have:∀d,(Op.equalIn (d+1) t (.slice a n c) (.slice none 0 0)).run P w=.ok a.isNone w:=fun d=>by
  cases a<;>simp[Op.equalIn,Sem.run_bind,run_underlying b]
 exact this 9999

theorem qo{o:Oper}{ρ:Operand->Value}{a:BinOp}{t u:TypeId}{x y:Operand}(c:o.op=.binOp a t x y u){v:Value}
  (b:(eqGuard a t x y (ρ x) (ρ y)).run P w=.ok () w) (d:(binOp a t (ρ x) (ρ y)).run P w=.ok v w):(execOp ρ o).run P w=.ok (.value v) w:=by
 unfold execOp;simp only[c];refine iK _ ?_;simp only[Sem.run_bind,b,Result.andThen_ok,d]

theorem lG{F:Nat->Prop}{w:World}:∀{l:List D}{us:List Value}(i:Nat)(v:Value),RC F w l us->l[i]? =some (.sc v)->us[i]? =some v
 |[],_,i,v,_,h=>by simp at h
 |d::l,us,0,v,h,hi=>by
  unfold RC at h;obtain⟨u,a,rfl,_,b,_⟩:=h;simp only[mM,bU]at hi;subst hi;unfold RD at b;simp[b.1]
 |d::l,us,i+1,v,h,hi=>by
  unfold RC at h;obtain⟨u,a,rfl,_,_,c⟩:=h;simpa using lG i v c (by simpa using hi)

theorem zw(c:∀t x,ty t=some x->bS P t x){F:Nat->Prop}{xs ys:List D}{cs cs':List Value}(n:RC F w xs cs)(o:RC F w ys cs')(d:Nat):
  ∀(i:List Field)(b:Bool),(i.all fun f=>f.name != "_")=true->tQ ty xs ys i=some b->(Op.eqFields (d+1) cs.toArray cs'.toArray i).run P w=.ok b w
 |[],b,_,h=>by simp only[tQ,bU]at h;subst h;simp[Op.eqFields]
 |f::i,b,m,h=>by
  simp only[List.all_cons,fP,bne_iff_ne,ne_eq]at m;have part:∀(cs:List Value)(v:Value)(de:TypeDesc),P.underlying f.type=some de->(∀a b,de≠.array a b)->(∀a,de≠.struct a)->cs[f.offset]? =some v->(part f.type cs.toArray f.offset).run P w=.ok v w:=by
   intro cs v de e j l hc;cases de<;>first|exact absurd rfl (j _ _)|exact absurd rfl (l _)|simp[part,isAgg,run_underlying e,hc]
  unfold tQ at h;split at h
  ·rename_i q _ _ _ _ k a k' g j l p;split at h
   ·rename_i y;subst y;obtain⟨r,s,rfl⟩:=kG.1 h;have e:=(c _ _ j).1;have u:=zw c n o d i r m.2 s;simp only[Op.eqFields,m.1,ne_eq,not_false_eq_true,if_true,Sem.run_bind,part cs _ _ e (by simp) (by simp) (lG _ _ n l),part cs' _ _ e (by simp) (by simp) (lG _ _ o p),Result.andThen_ok,run_equalIn_int w d f.type k _ a g e];cases(a==g)<;>simp[u]
   ·cases h
  ·rename_i _ _ _ _ a g j l p;obtain⟨r,s,rfl⟩:=kG.1 h;have e:=(c _ _ j).1;have u:=zw c n o d i r m.2 s;simp only[Op.eqFields,m.1,ne_eq,not_false_eq_true,if_true,Sem.run_bind,part cs _ _ e (by simp) (by simp) (lG _ _ n l),part cs' _ _ e (by simp) (by simp) (lG _ _ o p),Result.andThen_ok,run_equalIn_bool' w d f.type a g e];cases(a==g)<;>simp[u]
  ·rename_i _ _ _ _ a g j l p;obtain⟨r,s,rfl⟩:=kG.1 h;have e:=(c _ _ j).1;have u:=zw c n o d i r m.2 s;simp only[Op.eqFields,m.1,ne_eq,not_false_eq_true,if_true,Sem.run_bind,part cs _ _ e (by simp) (by simp) (lG _ _ n l),part cs' _ _ e (by simp) (by simp) (lG _ _ o p),Result.andThen_ok,run_equalIn_string w d f.type a g e];cases(a.toList==g.toList)<;>simp[u]
  ·cases h

theorem xw{F:Nat->Prop}{w:World}:∀(n:Nat){l:List D}{us:List Value},RC F w l us->RC F w (l.drop n) (us.drop n)
 |0,_,_,h=>h
 |n+1,[],us,h=>by unfold RC at h;subst h;simp only[List.drop_nil];unfold RC;rfl
 |n+1,d::l,us,h=>by
  unfold RC at h;obtain⟨u,b,rfl,_,_,a⟩:=h;exact xw n a
theorem CF{F:Nat->Prop}{w:World}:∀(n:Nat){l:List D}{us:List Value},RC F w l us->RC F w (l.take n) (us.take n)
 |0,l,us,h=>by simp only[oC];unfold RC;rfl
 |n+1,[],us,h=>by unfold RC at h;subst h;simp only[List.take_nil];unfold RC;rfl
 |n+1,d::l,us,h=>by
  unfold RC at h;obtain⟨u,e,rfl,a,b,c⟩:=h;simp only[Ao];unfold RC;exact⟨_,_,rfl,a,b,CF n c⟩
theorem xu(c:∀t x,ty t=some x->bS P t x){F:Nat->Prop}{xs ys:List D}{cs cs':List Value}(s:RC F w xs cs)(u:RC F w ys cs')(d:Nat):
  ∀(p:List Field)(b:Bool),(p.all fun f=>f.name != "_")=true->q9 ty xs ys p=some b->(Op.eqFields (d+2) cs.toArray cs'.toArray p).run P w=.ok b w
 |[],b,_,h=>by simp only[q9,bU]at h;subst h;simp[Op.eqFields]
 |f::p,b,m,h=>by
  simp only[List.all_cons,fP,bne_iff_ne,ne_eq]at m;have part:∀(cs:List Value)(v:Value)(de:TypeDesc),P.underlying f.type=some de->(∀a b,de≠.array a b)->(∀a,de≠.struct a)->cs[f.offset]? =some v->(part f.type cs.toArray f.offset).run P w=.ok v w:=by
   intro cs v de g j y hc;cases de<;>first|exact absurd rfl (j _ _)|exact absurd rfl (y _)|simp[part,isAgg,run_underlying g,hc]
  unfold q9 at h;split at h
  ·rename_i q _ _ _ _ k a k' o j y B;split at h
   ·rename_i J;subst J;obtain⟨r,z,rfl⟩:=kG.1 h;have g:=(c _ _ j).1;have A:=xu c s u d p r m.2 z;simp only[Op.eqFields,m.1,ne_eq,not_false_eq_true,if_true,Sem.run_bind,part cs _ _ g (by simp) (by simp) (lG _ _ s y),part cs' _ _ g (by simp) (by simp) (lG _ _ u B),Result.andThen_ok,run_equalIn_int w (d+1) f.type k _ a o g];cases(a==o)<;>simp[A]
   ·cases h
  ·rename_i _ _ _ _ a o j y B;obtain⟨r,z,rfl⟩:=kG.1 h;have g:=(c _ _ j).1;have A:=xu c s u d p r m.2 z;simp only[Op.eqFields,m.1,ne_eq,not_false_eq_true,if_true,Sem.run_bind,part cs _ _ g (by simp) (by simp) (lG _ _ s y),part cs' _ _ g (by simp) (by simp) (lG _ _ u B),Result.andThen_ok,run_equalIn_bool' w (d+1) f.type a o g];cases(a==o)<;>simp[A]
  ·rename_i _ _ _ _ a o j y B;obtain⟨r,z,rfl⟩:=kG.1 h;have g:=(c _ _ j).1;have A:=xu c s u d p r m.2 z;simp only[Op.eqFields,m.1,ne_eq,not_false_eq_true,if_true,Sem.run_bind,part cs _ _ g (by simp) (by simp) (lG _ _ s y),part cs' _ _ g (by simp) (by simp) (lG _ _ u B),Result.andThen_ok,run_equalIn_string w (d+1) f.type a o g];cases(a.toList==o.toList)<;>simp[A]
  ·rename_i C n _ _ j;split at h
   ·rename_i q G;obtain⟨r,z,rfl⟩:=kG.1 h;have H:=c _ _ j;obtain⟨g,i,_,_,_,_,K⟩:=H;obtain⟨q1,M,L⟩:=K rfl;have A:=xu c s u d p r m.2 z;have l:∀cs:List Value,(Go.part f.type cs.toArray f.offset).run P w=.ok (.agg ((cs.drop f.offset).take n).toArray) w:=by
     intro cs;have e:cs.toArray.extract f.offset (f.offset+n)=((cs.drop f.offset).take n).toArray:=by
      rw[List.extract_toArray];simp[List.extract]
     unfold Go.part;simp only[Sem.run_bind,nC (c _ _ j),bD.isAgg,Result.andThen_ok,if_true,jm (c _ _ j),Sem.run_pure,e]
    have I:P.fieldsOf f.type=C:=by simp[Program.fieldsOf,g]
    have E:=zw c (CF n (xw f.offset s)) (CF n (xw f.offset u)) d C.toList q (L C rfl) G;have heq:(Op.equalIn (d+2) f.type (.agg ((cs.drop f.offset).take n).toArray) (.agg ((cs'.drop f.offset).take n).toArray)).run P w=.ok q w:=by
     rw[run_equalIn_agg w (d+1) f.type _ _ (by rw[I];exact g) q1,I];exact E
    simp only[Op.eqFields,m.1,ne_eq,not_false_eq_true,if_true,Sem.run_bind,l cs,l cs',Result.andThen_ok,heq];cases q<;>simp[A]
   ·cases h
  ·cases h

theorem OQ{F:Nat->Prop}{el:TypeId}{t:IntKind}(f:P.underlying el=some (.int t)){cs cs':List Value}(d:Nat):∀{xs ys:List D}(i:Nat)(b:Bool),RC F w xs (cs.drop i)->RC F w ys (cs'.drop i)->ru xs ys=some b->
  ((forIn (List.range' i xs.length) ((none,()):Option Bool×Unit) fun(j:Nat)(_:Option Bool×Unit)=>(do
   if !(<-Op.equalIn (d+1) el (<-part el cs.toArray (j*1)) (<-part el cs'.toArray (j*1)))then return .done (some false,())
   return .yield (none,()):Sem (ForInStep (Option Bool×Unit)))).run P w).andThen (fun r w'=>match r.1 with|none=>.ok true w'|some a=>.ok a w')=.ok b w:=by
 intro xs
 induction xs with
 |nil=>
  intro ys i b _ _ h;cases ys with
  |nil=>simp only[ru,bU]at h;subst h;simp
  |cons y l=>simp[ru]at h
 |cons x l e=>
  intro ys i b g m h;unfold ru at h;split at h
  ·rename_i _ q;cases q
  ·rename_i _ k a l0 k' c l' q1;obtain⟨rfl,rfl⟩:=List.cons.inj q1;split at h
   ·rename_i p;subst p;obtain⟨r,s,rfl⟩:=kG.1 h;have n:cs[i]? =some (.int k a):=by have:=lG 0 (.int k a) g rfl;simpa using this
    have o:cs'[i]? =some (.int k c):=by have:=lG 0 (.int k c) m rfl;simpa using this
    have part:∀(cs:List Value)(v:Value),cs[i]? =some v->(part el cs.toArray i).run P w=.ok v w:=by
     intro cs v hc;simp[Go.part,isAgg,run_underlying f,hc]
    have e:=e (i+1) r (by have:=xw 1 g;simpa[AB,xU]using this) (by have:=xw 1 m;simpa[AB,xU]using this) s;simp only[oz]at e ⊢;simp only[gZ,List.range'_succ,List.forIn_cons,Sem.run_bind,part cs _ n,part cs' _ o,Result.andThen_ok,run_equalIn_int w d el k _ a c f];cases(a==c)
    ·simp
    ·simpa using e
   ·cases h
  ·cases h
theorem JG{F:Nat->Prop}{t el:TypeId}{n:Nat}{j:IntKind}(i:P.underlying t=some (.array n el))(g:P.underlying el=some (.int j))(hs:(sizeOf el).run P w=.ok 1 w){l l':List D}{cs cs':List Value}(c:RC F w l cs)(f:RC F w l' cs')(h:l.length=n)(d:Nat){b:Bool}(hb:ru l l'=some b):
  (Op.equalIn (d+2) t (.agg cs.toArray) (.agg cs'.toArray)).run P w=.ok b w:=by
 have:=OQ (P:=P) (w:=w) g d 0 b (xs:=l) (ys:=l') (cs:=cs) (cs':=cs') (by simpa using c) (by simpa using f) hb;rw[h]at this;rw[show d+2=(d+1)+1 from rfl];generalize d+1=e at this ⊢;simp only[Op.equalIn,Sem.run_bind,run_underlying i,Result.andThen_ok,hs,Std.Legacy.Range.forIn_eq_forIn_range',Std.Legacy.Range.size,Nat.sub_zero,DY,Nat.div_one];rw[<-this];congr 1;funext a w';rcases a with⟨_|_,_⟩<;>simp
theorem jps(h:∀t x,ty t=some x->bS P t x){F:Nat->Prop}{l l':List D}{cs cs':List Value}(c:RC F w l cs)(e:RC F w l' cs'){t:TypeId}{d:TypeDesc}(j:P.underlying t=some d)(q1:P.stoodInHeld t=false)(p:∀a,d=.struct a->(a.toList.all fun f=>f.name != "_")=true){b:Bool}(hb:Bv ty l l' d=some b):
  (Op.equalIn 10000 t (.agg cs.toArray) (.agg cs'.toArray)).run P w=.ok b w:=by
 unfold Bv at hb;split at hb
 ·rename_i a;have m:P.fieldsOf t=a:=by simp[Program.fieldsOf,j]
  have g:=xu (P:=P) h c e 9997 a.toList b (p a rfl) hb;rw[run_equalIn_agg w 9999 t _ _ (by rw[m];exact j) q1,m];exact g
 ·rename_i n el;split at hb
  ·rename_i q _ _ _ i;split at hb
   ·rename_i o;have k:=h _ _ i;exact JG j k.1 (jm k) c e o 9998 hb
   ·cases hb
  ·cases hb
 ·cases hb
theorem Rq(c:∀t x,ty t=some x->bS P t x)(h:dh cx κ F w U σ){o:Oper}{ρ:Operand->Value}{e:Operand->AV}(r:∀x,RV κ F w (e x) (ρ x)){v:BinOp}{t u:TypeId}{x y:Operand}(s:o.op=.binOp v t x y u):
  dP P cx κ F w U nm σ o ρ (sJ ty v t (e x) (e y)):=by
 unfold sJ;split
 ·rename_i l l' m n;have p:=r x;have q:=r y
  rw[m]at p;rw[n]at q;unfold RV RD at p q;obtain⟨cs,f,j⟩:=p;obtain⟨cs',g,k⟩:=q;split
  ·rename_i d G B z hT;obtain⟨D,i,_,_,_,_,C⟩:=c _ _ hT;obtain⟨q1,A,E⟩:=C rfl;split
   ·rename_i b hb;have heq:(Op.equalIn 10000 t (.agg cs.toArray) (.agg cs'.toArray)).run P w=.ok b w:=jps c j k D q1 E hb;split
    ·refine kZ h (qo s (by rw[f,g];exact run_eqGuard_agg w _ t _ _ _ _ A) ?_);rw[f,g,run_eql_struct,heq];rfl
    ·refine kZ h (qo s (by rw[f,g];exact run_eqGuard_agg w _ t _ _ _ _ A) ?_);rw[f,g,run_neq_struct,heq];rfl
    ·intro a;exact a.elim
   ·intro a;exact a.elim
  ·intro a;exact a.elim
 ·intro a;exact a.elim

theorem Qy(C:∀t x,ty t=some x->bS P t x)(h:dh cx κ F w U σ){o:Oper}{ρ:Operand->Value}{e:Operand->AV}(z:∀x,RV κ F w (e x) (ρ x)){r:BinOp}{t u:TypeId}{x y:Operand}(B:o.op=.binOp r t x y u):
  dP P cx κ F w U nm σ o ρ (spec ty Γ σ e nm o):=by
 have hs:spec ty Γ σ e nm o=uS ty r t (e x) (e y):=by unfold spec;simp only[B]
 rw[hs];unfold uS;split
 ·rename_i k a k' b j D;have g:=jl j (z x);have q:=jl D (z y);have f:∀v,(binOp r t (.int k a) (.int k' b)).run P w=.ok v w->(execOp ρ o).run P w=.ok (.value v) w:=fun v H=>
   qo B (by rw[g,q];exact jqw ..) (by rw[g,q];exact H)
  split
  ·refine jr h rfl fun p=>f _ ?_;have:¬b<0:=by omega
   simp[binOp,Op.shift,this]
  ·refine jr h rfl fun p=>f _ ?_;have:¬b<0:=by omega
   simp[binOp,Op.shift,this]
  ·rename_i K L;split
   ·rename_i Q;subst Q;have i:∀v,(match r with
      | .add| .sub| .mul=>Op.intArith r k a b
      | .quo| .rem=>Op.intDiv r k a b
      | .and| .or| .xor| .andNot=>Op.intBits r k a b
      |_=>Op.intCmp r a b:Sem Value).run P w=.ok v w->(execOp ρ o).run P w=.ok (.value v) w:=fun v H=>f v (by
     cases r<;>first|exact absurd rfl K|exact absurd rfl L|simpa[binOp]using H)
    split
    ·exact zW h (i _ (by simp[Op.intArith]))
    ·exact zW h (i _ (by simp[Op.intArith]))
    ·exact zW h (i _ (by simp[Op.intArith]))
    ·exact jr h rfl fun p=>i _ (by simp[Op.intDiv,p])
    ·exact jr h rfl fun p=>i _ (by simp[Op.intDiv,p])
    ·exact kZ h (i _ (by simp[Op.intCmp]))
    ·exact kZ h (i _ (by simp[Op.intCmp]))
    ·exact kZ h (i _ (by simp[Op.intCmp]))
    ·exact kZ h (i _ (by simp[Op.intCmp]))
    ·exact kZ h (i _ (by simp[Op.intCmp]))
    ·exact kZ h (i _ (by simp[Op.intCmp]))
    ·exact jr h rfl fun p=>i _ (by simp[Op.intBits])
    ·exact jr h rfl fun p=>i _ (by simp[Op.intBits])
    ·exact jr h rfl fun p=>i _ (by simp[Op.intBits])
    ·intro p;exact p.elim
   ·intro p;exact p.elim
 ·split
  ·rename_i a b j D;have g:=uQ j (z x);have q:=uQ D (z y);have f:∀v,(Op.stringOp r a b).run P w=.ok v w->(execOp ρ o).run P w=.ok (.value v) w:=fun v H=>
    qo B (by rw[g,q];exact Qd ..) (by rw[g,q];cases r<;>simpa[binOp]using H)
   split
   ·refine jr h rfl fun p=>f _ ?_;have:¬(((a.size+b.size:Nat):Int)>IntKind.i64.max):=by
     have e:IntKind.i64.max=9223372036854775807:=by decide
     rw[e];omega
    simp only[Op.stringOp,this,if_false,Sem.run_pure]
   all_goals first|exact kZ h (f _ (by simp[Op.stringOp]))|(intro p;exact p.elim)
  ·split
   ·rename_i a b size bytes zero j D S;have g:=zm j (z x);have q:=zm D (z y);have G:=(C _ _ S).1;split
    ·refine kZ h (qo B (by rw[g,q];exact Jc ..) ?_);rw[g,q];simp only[binOp,Sem.run_bind,Jq G,Result.andThen_ok,Sem.run_pure]
    ·refine kZ h (qo B (by rw[g,q];exact Jc ..) ?_);rw[g,q];simp only[binOp,Sem.run_bind,Jq G,Result.andThen_ok,Sem.run_pure]
    ·intro p;exact p.elim
   ·unfold xk;split
    ·rename_i el size bytes zero hT D;have G:=(C _ _ hT).1;have q:ρ y=.slice none 0 0:=by
      have:=z y;rw[D]at this;unfold RV RD at this;exact this.1
     have f:∀(a:Option Addr)(n c:Nat),ρ x=.slice a n c->(r=.eql->(execOp ρ o).run P w=.ok (.value (.bool a.isNone)) w)/\ (r=.neq->(execOp ρ o).run P w=.ok (.value (.bool (!a.isNone))) w):=by
      intro a n c g;refine⟨fun d=>?_,fun d=>?_⟩
      ·subst d;exact qo B (by rw[g,q];exact HV ..) (by rw[g,q];simp only[binOp,Sem.run_bind,I6 G,Result.andThen_ok,Sem.run_pure])
      ·subst d;exact qo B (by rw[g,q];exact HV ..) (by rw[g,q];simp only[binOp,Sem.run_bind,I6 G,Result.andThen_ok,Sem.run_pure])
     have key:∀s:Bool,((s=false/\ r=.eql) \/(s=true/\ r=.neq))->dP P cx κ F w U nm σ o ρ (oL s (e x)):=by
      intro s A;have j:=z x;unfold oL;split
      ·rename_i es T l m;rw[m]at j;unfold RV RD at j;obtain⟨a,c,g,_,_,J,E⟩:=j;refine jr h rfl fun _=>?_;rcases E with E|⟨b,N,us,I,_⟩
       ·cases E
       ·subst I;rcases A with⟨rfl,d⟩|⟨rfl,d⟩
        ·rw[(f _ _ c g).1 d];rfl
        ·rw[(f _ _ c g).2 d];rfl
      ·rename_i es l O m;rw[m]at j;unfold RV RD at j;obtain⟨a,c,g,_,_,J,E⟩:=j;intro _;have R:(execOp ρ o).run P w=.ok (.value (.bool (a.isNone !=s))) w:=by
        rcases A with⟨rfl,d⟩|⟨rfl,d⟩
        ·rw[(f a _ c g).1 d];simp
        ·rw[(f a _ c g).2 d];simp
       refine dW R ⟨.dat (.sc (.bool (a.isNone !=s))),[],κ,F,⟨rfl,a.isNone,rfl,fun M=>?_⟩,kT.same h,by unfold RV RD;exact⟨rfl,rfl⟩,by unfold NB;trivial⟩;rcases E with E|⟨b,N,us,I,_⟩
       ·exact absurd E M
       ·rw[I];rfl
      ·rename_i m;rw[m]at j;unfold RV RD at j;have g:=j.1;refine jr h rfl fun _=>?_;rcases A with⟨rfl,d⟩|⟨rfl,d⟩
       ·rw[(f none 0 0 g).1 d];rfl
       ·rw[(f none 0 0 g).2 d];rfl
      ·intro p;exact p.elim
     split
     ·exact key false (.inl ⟨rfl,rfl⟩)
     ·exact key true (.inr ⟨rfl,rfl⟩)
     ·intro p;exact p.elim
    ·rename_i el size bytes zero hT D;have G:=(C _ _ hT).1;have q:ρ y=.pointer none:=by
      have:=z y;rw[D]at this;unfold RV RD at this;exact this.1
     have f:∀a:Option Addr,ρ x=.pointer a->(r=.eql->(execOp ρ o).run P w=.ok (.value (.bool a.isNone)) w)/\ (r=.neq->(execOp ρ o).run P w=.ok (.value (.bool (!a.isNone))) w):=by
      intro a g;refine⟨fun d=>?_,fun d=>?_⟩<;>subst d<;>exact qo B (by rw[g,q];exact jsh ..) (by rw[g,q];simp only[binOp,Sem.run_bind,Qw G,Result.andThen_ok,Sem.run_pure])
     have j:=z x;split
     ·rename_i m;rw[m]at j;unfold RV at j;obtain⟨b,_,g⟩:=j;exact kZ h ((f _ g).1 rfl)
     ·rename_i m;rw[m]at j;unfold RV at j;obtain⟨b,_,g⟩:=j;exact kZ h ((f _ g).2 rfl)
     ·rename_i m;rw[m]at j;unfold RV RD at j;exact kZ h ((f _ j.1).1 rfl)
     ·rename_i m;rw[m]at j;unfold RV RD at j;exact kZ h ((f _ j.1).2 rfl)
     ·intro p;exact p.elim
    ·exact Rq C h z B

end
end
section
section
variable{P:Program}{cx:Cx}{κ:dx}{F:Nat->Prop}{w:World}{U:Nat->Prop}{nm:Nat}{σ:bJ}{ty:TypeId->Option bD}{Γ:Nat->Option dJ}

theorem yS(v:Value):v.oneCell'=one v:=by cases v<;>rfl

theorem bQ.length:∀{l:List AV}{us:List Value},bQ κ F w l us->us.length=l.length
 |[],us,h=>by unfold bQ at h;subst h;rfl
 |d::ds,us,h=>by
  unfold bQ at h;obtain⟨u,b,rfl,_,_,a⟩:=h;simp[bQ.length a]

theorem bQ.drop:∀(n:Nat){l:List AV}{us:List Value},bQ κ F w l us->bQ κ F w (l.drop n) (us.drop n)
 |0,l,us,h=>h
 |n+1,[],us,h=>by unfold bQ at h;subst h;simp only[List.drop_nil];unfold bQ;rfl
 |n+1,d::ds,us,h=>by
  unfold bQ at h;obtain⟨u,b,rfl,_,_,a⟩:=h;simpa using bQ.drop n a
theorem bQ.take:∀(n:Nat){l:List AV}{us:List Value},bQ κ F w l us->bQ κ F w (l.take n) (us.take n)
 |0,l,us,h=>by simp only[oC];unfold bQ;rfl
 |n+1,[],us,h=>by unfold bQ at h;subst h;simp only[List.take_nil];unfold bQ;rfl
 |n+1,d::ds,us,h=>by
  unfold bQ at h;obtain⟨u,e,rfl,a,b,c⟩:=h;simp only[Ao];unfold bQ;exact⟨u,_,rfl,a,b,bQ.take n c⟩
theorem bQ.app:∀{l l':List AV}{us a:List Value},bQ κ F w l us->bQ κ F w l' a->bQ κ F w (l++l') (us++a)
 |[],l',us,a,h,b=>by unfold bQ at h;subst h;exact b
 |d::ds,l',us,a,h,b=>by
  unfold bQ at h;obtain⟨u,g,rfl,c,e,f⟩:=h;simp only[lD];unfold bQ;exact⟨u,_,rfl,c,e,bQ.app f b⟩
theorem bQ.at:∀{l:List AV}{us:List Value}(i:Nat)(x:AV),bQ κ F w l us->l[i]? =some x->∃u,us[i]? =some u/\ one u=true/\ RV κ F w x u
 |[],_,i,x,_,hi=>by simp at hi
 |d::ds,us,0,x,h,hi=>by
  unfold bQ at h;obtain⟨u,a,rfl,b,c,e⟩:=h;simp at hi;subst hi;exact⟨u,by simp,b,c⟩
 |d::ds,us,i+1,x,h,hi=>by
  unfold bQ at h;obtain⟨u,a,rfl,b,c,e⟩:=h;simpa using bQ.at i x e (by simpa using hi)
theorem bQ.ones:∀{l:List AV}{us:List Value},bQ κ F w l us->∀u∈us,one u=true
 |[],us,h=>by unfold bQ at h;subst h;simp
 |d::ds,us,h=>by
  unfold bQ at h;obtain⟨u,c,rfl,a,e,b⟩:=h;intro v hv;rcases dY.1 hv with rfl|hv
  ·exact a
  ·exact bQ.ones b v hv

theorem bN.drop:∀(n:Nat){l:List AV},bN U l->bN U (l.drop n)
 |0,l,h=>h
 |n+1,[],h=>by simpa using h
 |n+1,d::ds,h=>by unfold bN at h;simpa using bN.drop n h.2
theorem bN.take:∀(n:Nat){l:List AV},bN U l->bN U (l.take n)
 |0,l,h=>by simp only[oC];unfold bN;trivial
 |n+1,[],h=>by simpa using h
 |n+1,d::ds,h=>by unfold bN at h;simp only[Ao];unfold bN;exact⟨h.1,bN.take n h.2⟩
theorem bN.app:∀{l l':List AV},bN U l->bN U l'->bN U (l++l')
 |[],l',h,a=>a
 |d::ds,l',h,a=>by unfold bN at h;simp only[lD];unfold bN;exact⟨h.1,bN.app h.2 a⟩
theorem bN.at:∀{l:List AV}(i:Nat)(x:AV),bN U l->l[i]? =some x->NB U x
 |[],i,x,_,hi=>by simp at hi
 |d::ds,0,x,h,hi=>by unfold bN at h;simp at hi;subst hi;exact h.1
 |d::ds,i+1,x,h,hi=>by unfold bN at h;exact bN.at i x h.2 (by simpa using hi)

theorem RC.drop:∀(n:Nat){l:List D}{us:List Value},RC F w l us->RC F w (l.drop n) (us.drop n)
 |0,l,us,h=>h
 |n+1,[],us,h=>by unfold RC at h;subst h;simp only[List.drop_nil];unfold RC;rfl
 |n+1,d::ds,us,h=>by
  unfold RC at h;obtain⟨u,b,rfl,_,_,a⟩:=h;simpa using RC.drop n a
theorem RC.take:∀(n:Nat){l:List D}{us:List Value},RC F w l us->RC F w (l.take n) (us.take n)
 |0,l,us,h=>by simp only[oC];unfold RC;rfl
 |n+1,[],us,h=>by unfold RC at h;subst h;simp only[List.take_nil];unfold RC;rfl
 |n+1,d::ds,us,h=>by
  unfold RC at h;obtain⟨u,e,rfl,a,b,c⟩:=h;simp only[Ao];unfold RC;exact⟨u,_,rfl,a,b,RC.take n c⟩
theorem RC.app:∀{l l':List D}{us a:List Value},RC F w l us->RC F w l' a->RC F w (l++l') (us++a)
 |[],l',us,a,h,b=>by unfold RC at h;subst h;exact b
 |d::ds,l',us,a,h,b=>by
  unfold RC at h;obtain⟨u,g,rfl,c,e,f⟩:=h;simp only[lD];unfold RC;exact⟨u,_,rfl,c,e,RC.app f b⟩
theorem RC.at:∀{l:List D}{us:List Value}(i:Nat)(x:D),RC F w l us->l[i]? =some x->∃u,us[i]? =some u/\ one u=true/\ RD F w x u
 |[],_,i,x,_,hi=>by simp at hi
 |d::ds,us,0,x,h,hi=>by
  unfold RC at h;obtain⟨u,a,rfl,b,c,e⟩:=h;simp at hi;subst hi;exact⟨u,by simp,b,c⟩
 |d::ds,us,i+1,x,h,hi=>by
  unfold RC at h;obtain⟨u,a,rfl,b,c,e⟩:=h;simpa using RC.at i x e (by simpa using hi)
theorem RC.ones:∀{l:List D}{us:List Value},RC F w l us->∀u∈us,one u=true
 |[],us,h=>by unfold RC at h;subst h;simp
 |d::ds,us,h=>by
  unfold RC at h;obtain⟨u,c,rfl,a,e,b⟩:=h;intro v hv;rcases dY.1 hv with rfl|hv
  ·exact a
  ·exact RC.ones b v hv
theorem RE.ones{es:Nat}:∀{l:List D}{us:List Value},RE F w es l us->∀u∈us,one u=true
 |[],us,h=>by unfold RE at h;subst h;simp
 |d::ds,us,h=>by
  obtain⟨u,c,rfl,e,a,b⟩:=h.cons;intro v hv;rcases fA.1 hv with hv|hv
  ·exact RC.ones a v hv
  ·exact RE.ones b v hv

theorem oW{o:Oper}{ρ:Operand->Value}{t:TypeId}{x:Operand}(b:o.op=.load t x){a:Addr}(d:ρ x=.pointer (some a)){v:Value}(c:(loadVar t a).run P w=.ok v w):
  (execOp ρ o).run P w=.ok (.value v) w:=by
 unfold execOp;simp only[b];refine iK _ ?_;simp only[Instr.loadAt,Instr.sureAddr,d,Sem.run_bind,Sem.run_pure,Result.andThen_ok,c]

theorem vL{t:TypeId}{x:bD}(h:bS P t x)(c:x.isAgg=true){b a:Nat}{us:List Value}(e:us.length=x.size)(hc:∀j u,us[j]? =some u->w.cell? ⟨b,a+j,none⟩=some u):
  (loadVar t ⟨b,a,none⟩).run P w=.ok (.agg us.toArray) w:=by
 have:=run_loadCells_list (P:=P) w ⟨b,a,none⟩ us (fun j v d=>by rw[Addr.add_lit];exact hc j v d);rw[e]at this;simp only[loadVar,Sem.run_bind,nC h,c,Result.andThen_ok,if_true,jm h,this,Sem.run_pure]

theorem vM{t:TypeId}{x:bD}(h:bS P t x)(b:x.isAgg=false){a:Addr}{u:Value}(hc:w.cell? a=some u):
  (loadVar t a).run P w=.ok u w:=by
 simp only[loadVar,Sem.run_bind,nC h,b,Result.andThen_ok,bW,if_false,run_load,hc]

theorem GZ{l:List AV}{us:List Value}(h:bQ κ F w l us):RV κ F w (.aggv l) (.agg us.toArray):=by unfold RV;exact⟨us,rfl,h⟩
theorem yY{l:List D}{us:List Value}(h:RC F w l us):RV κ F w (.dat (.agg l)) (.agg us.toArray):=by unfold RV RD;exact⟨us,rfl,h⟩
theorem Hl:∀{l:List AV}{ds:List D}{us:List Value},jG l=some ds->bQ κ F w l us->RC F w ds us
 |[],ds,us,h,a=>by simp only[jG,bU]at h;subst h;unfold bQ at a;unfold RC;exact a
 |x::l,ds,us,h,a=>by
  unfold jG at h;split at h
  ·rename_i d f b j;simp only[bU]at h;subst h;unfold bQ at a;obtain⟨u,c,rfl,g,e,i⟩:=a;unfold RC;refine⟨u,c,rfl,g,?_,Hl j i⟩;cases x with
   |dat k=>simp only[AV.oF,bU]at b;subst b;unfold RV at e;exact e
   |_=>simp[AV.oF]at b
  ·cases h
theorem uY{l:List AV}{us:List Value}(h:bQ κ F w l us):RV κ F w (jZ l) (.agg us.toArray):=by
 unfold jZ;split
 ·rename_i ds hd;exact yY (Hl hd h)
 ·exact GZ h
theorem ny{l:List AV}(h:bN U l):NB U (jZ l):=by
 unfold jZ;split
 ·unfold NB;trivial
 ·unfold NB;exact h
theorem zC{b:Nat}{arr:Array Value}{a:TypeId}{fr:Nat×Nat}(h:w.heap[b]? =some (.cells arr a fr))(i:Nat):w.cell? ⟨b,i,none⟩=arr[i]?:=cell_of_row w b i arr a fr h

theorem PO{o:Nat}{e:TypeId}{es:Nat}{l:List D}(h:iH κ F w o (.arr e es l)){b f n d:Nat}(i:(κ o).v=.slice (some ⟨b,f,none⟩) n d):
  ∃us,RE F w es l us/\ n=l.length/\ (∀j u,us[j]? =some u->w.cell? ⟨b,f+j,none⟩=some u):=by
 obtain⟨us,a,k,_⟩:=h;refine⟨us,k,?_,fun j u q=>?_⟩
 ·rcases a.2 with⟨c,_⟩|⟨g,r,m,p,c,_⟩
  ·rw[i]at c;simp at c
  ·rw[i]at c;simp at c;omega
 ·exact a.cells i j u q

theorem jR{α:Type}{l:List α}{k:Nat}{d:α}(h:k<l.length):l[k]? =some (l.getD k d):=by
 rw[fO h,dD,fO h];rfl

theorem QX(O:∀t x,ty t=some x->bS P t x)(h:dh cx κ F w U σ){o:Oper}{ρ:Operand->Value}{e:Operand->AV}(he:∀x,RV κ F w (e x) (ρ x)){t:TypeId}{x:Operand}(D:o.op=.load t x)
  (J:∀T ob es k j,ty t=some T->e x=.eref ob es k j->dP P cx κ F w U nm σ o ρ (nu σ T ob es k j)) (I:∀T ob g k j es i c,ty t=some T->e x=.fH ob g k j es i c->dP P cx κ F w U nm σ o ρ (nR σ T ob g k j es i c)):
  dP P cx κ F w U nm σ o ρ (spec ty Γ σ e nm o):=by
 have hs:spec ty Γ σ e nm o=jQ ty σ t (e x):=by unfold spec;simp only[D]
 rw[hs];unfold jQ;have z:=he x;cases hT:ty t with
 |none=>intro m;exact m.elim
 |some T=>
  have q:=O t T hT;simp only[];split
  ·rename_i ob i p;rw[p]at z;unfold RV at z;obtain⟨b,N,B⟩:=z;split
   ·rename_i l y;obtain⟨b',arr,Q,X,R⟩:=h.ok ob _ y;rw[N]at Q;simp at Q;subst Q;have V:=(h.nb ob _ y).2;have A:=R.length;split
    ·rename_i r;split
     ·rename_i ab;intro _;refine dW (oW D B (vL q r (us:=(arr.toList.drop i).take T.size) ?_ ?_)) (fJ h (uY ((R.drop i).take T.size)) (ny ((bN.drop i V).take T.size)))
      ·rw[eF,gY];omega
      ·intro j u s;rw[zC X];rw[nI]at s;split at s
       ·rw[iX]at s;simpa using s
       ·cases s
     ·intro m;exact m.elim
    ·rename_i r;split
     ·rename_i v W;intro _;obtain⟨u,h1,h2,h3⟩:=bQ.at i v R W;exact dW (oW D B (vM q (by simpa using r) (u:=u) (by rw[zC X];simpa using h1))) (fJ h h3 (bN.at i v V W))
     ·intro m;exact m.elim
   ·intro m;exact m.elim
  ·rename_i ob es k j p;rw[p]at z;unfold RV at z;obtain⟨b,f,n,aa,N,B⟩:=z;split
   ·rename_i e' es' l y;split
    ·rename_i M;subst M;obtain⟨us,H,_,a⟩:=PO (h.ok ob _ y) N;split
     ·rename_i r;intro m;obtain⟨C,G⟩:=(show _/\ _ from m);obtain⟨K,Y⟩:=RE.at k _ H (jR (d:=.sc undef) C);refine dW (oW D B (vL q r (us:=(((us.drop (k*es)).take es).drop j).take T.size) ?_ ?_)) (fJ h (yY ((K.drop j).take T.size)) (oO _))
      ·rw[eF,gY,Y];omega
      ·intro i u hi;rw[j5];refine a _ u ?_;rw[nI]at hi;split at hi
       ·rw[iX,nI]at hi;split at hi
        ·rw[iX]at hi;rw[j5];exact hi
        ·cases hi
       ·cases hi
     ·rename_i r;intro m;obtain⟨C,G⟩:=(show _/\ _ from m);obtain⟨K,Y⟩:=RE.at k _ H (jR (d:=.sc undef) C);have A:=K.length;obtain⟨u,L,u2,S⟩:=RC.at j _ K (jR (d:=.sc undef) (by omega));refine dW (oW D B (vM q (by simpa using r) (u:=u) (a _ u ?_))) (fJ h (by unfold RV;exact S) (oO _));rw[kL G,iX]at L;exact L
    ·intro m;exact m.elim
   ·exact J T ob es k j hT p
   ·intro m;exact m.elim
  ·rename_i ob g k j es i c p;exact I T ob g k j es i c hT p
  ·rename_i ds p;rw[p]at z;unfold RV at z;obtain⟨b,ad,us,B,hF,a,E⟩:=z;have A:=E.length;split
   ·rename_i r;intro m;have ac:T.size<=ds.length:=m;refine dW (oW D B (vL q r (us:=us.take T.size) ?_ ?_)) (fJ h (yY (E.take T.size)) (oO _))
    ·rw[eF];omega
    ·intro j u s;rw[nI]at s;split at s
     ·exact a j u s
     ·cases s
   ·rename_i r;split
    ·rename_i d Z;intro _;obtain⟨u,L,u2,S⟩:=RC.at 0 d E (by simp);refine dW (oW D B (vM q (by simpa using r) (u:=u) (by simpa using a 0 u L))) (fJ h (by unfold RV;exact S) (oO _))
    ·intro m;exact m.elim
  ·intro m;exact m.elim

theorem zA(b i n:Nat):Addr.add ⟨b,i,none⟩ n=⟨b,i+n,none⟩:=Addr.add_lit b i n

theorem Ru(A:∀t x,ty t=some x->bS P t x)(h:dh cx κ F w U σ){o:Oper}{ρ:Operand->Value}{e:Operand->AV}(I:∀x,RV κ F w (e x) (ρ x))(J:∀x,NB U (e x)){s:TypeId}{x:Operand}{f:Nat}(H:o.op=.fieldAddr s x f):
  dP P cx κ F w U nm σ o ρ (spec ty Γ σ e nm o):=by
 have hs:spec ty Γ σ e nm o=vk ty s (e x) f:=by unfold spec;simp only[H]
 rw[hs];unfold vk;cases m:ze ty s f with
 |none=>intro C;exact C.elim
 |some r=>
  have v:∀b i,ρ x=.pointer (some ⟨b,i,none⟩)->(execOp ρ o).run P w=.ok (.value (.pointer (some ⟨b,i+r,none⟩))) w:=by
   intro b i q;unfold ze at m;split at m
   ·rename_i size N bytes zero E;split at m
    ·rename_i M B;split at m
     ·rename_i T hT;split at m
      ·cases m
      ·rename_i L;simp only[bU]at m;unfold execOp;simp only[H];refine iK _ ?_;have K:=(A _ _ E).1;simp only[Instr.fieldAt,Sem.run_bind,run_underlying K,Result.andThen_ok,B,Instr.sureAddr,q,Sem.run_pure,fieldPlace,jm (A _ _ hT),L,if_false,zA,m]
     ·cases m
    ·cases m
   ·cases m
  simp only[];have l:=I x;have a:=J x;split
  ·rename_i ob i d;rw[d]at l a;unfold RV at l;obtain⟨b,z,q⟩:=l;intro _;refine dW (v _ _ q) (fJ h ?_ ?_)
   ·unfold RV;exact⟨b,z,rfl⟩
   ·unfold NB at a ⊢;exact a
  ·rename_i ob es k j d;rw[d]at l a;unfold RV at l;obtain⟨b,f,n,y,z,q⟩:=l;intro _;refine dW (v _ _ q) (fJ h ?_ ?_)
   ·unfold RV;exact⟨b,f,n,y,z,by simp only[j5]⟩
   ·unfold NB at a ⊢;exact a
  ·rename_i ob g k j es i c d;rw[d]at l a;unfold RV at l;obtain⟨b,f,n,y,z,q⟩:=l;intro _;refine dW (v _ _ q) (fJ h ?_ ?_)
   ·unfold RV;exact⟨b,f,n,y,z,by simp only[j5]⟩
   ·unfold NB at a ⊢;exact a
  ·rename_i ds d;rw[d]at l;unfold RV at l;obtain⟨b,i,us,q,hF,p,D⟩:=l;intro _;refine dW (v _ _ q) (fJ h ?_ (by unfold NB;trivial));unfold RV;refine⟨b,i+r,us.drop r,rfl,hF,fun j u G=>?_,D.drop r⟩;rw[iX]at G;rw[j5];exact p _ u G
  ·intro C;exact C.elim

theorem nD(a:∀t x,ty t=some x->bS P t x){t e:TypeId}{E:bD}(h:iY ty t=some (e,E)):P.underlying t=some (.slice e)/\ bS P e E:=by
 unfold iY at h;split at h
 ·rename_i b;split at h
  ·rename_i c hE;simp only[bU,eY]at h;obtain⟨rfl,rfl⟩:=h;exact⟨(a _ _ b).1,a _ _ hE⟩
  ·cases h
 ·cases h

theorem Rv(S:∀t x,ty t=some x->bS P t x)(h:dh cx κ F w U σ){o:Oper}{ρ:Operand->Value}{e:Operand->AV}(Z:∀x,RV κ F w (e x) (ρ x))(hn:∀x,NB U (e x)){t:TypeId}{x i:Operand}(ho:o.op=.indexAddr t x i)
  (X:∀el E kk n ob g k j,iY ty t=some (el,E)->fE (e i)=some (kk,n)->e x=.row ob g k j->dP P cx κ F w U nm σ o ρ (qg σ E ob g k j n)):
  dP P cx κ F w U nm σ o ρ (spec ty Γ σ e nm o):=by
 have hs:spec ty Γ σ e nm o=qj ty σ t (e x) (e i):=by unfold spec;simp only[ho]
 rw[hs];unfold qj;split
 ·rename_i el E k n O hi;obtain⟨hu,T⟩:=nD S O;have vi:=jl hi (Z i);have C:∀(b:Nat)(A len z:Nat),ρ x=.slice (some ⟨b,A,none⟩) len z->0<=n->n<len->(execOp ρ o).run P w=.ok (.value (.pointer (some ⟨b,A+n.toNat*E.size,none⟩))) w:=by
   intro b A len z J h0 Y;unfold execOp;simp only[ho];refine iK _ ?_;have hc:0<=n/\ n<(len:Int):=⟨h0,Y⟩;simp only[Instr.indexAt,J,vi,asIntOf,Sem.run_bind,Sem.run_pure,Result.andThen_ok,run_underlying hu,hc,and_self,if_true,jm T,zA]
  have B:=Z x;have p:=hn x;split
  ·rename_i es l y;rw[y]at B;unfold RV RD at B;obtain⟨a,z,J,Y,h2,h3,h4⟩:=B;split
   ·rename_i I;intro s;obtain⟨G,H⟩:=(show _/\ _ from s);have L:n.toNat<l.length:=by omega
    rcases h4 with rfl|⟨b,A,us,rfl,hF,ad,D,W⟩
    ·simp at L
    ·obtain⟨r1,r2⟩:=RE.at n.toNat _ W (jR (d:=.sc undef) L);refine dW (C _ _ _ _ J G H) (fJ h ?_ (by unfold NB;trivial));unfold RV;refine⟨b,_,_,rfl,hF,fun j u M=>?_,r1⟩;rw[nI]at M;split at M
     ·rw[iX]at M;rw[j5,<-I];exact D _ u M
     ·cases M
   ·intro s;exact s.elim
  ·rename_i ob y;rw[y]at B p;split
   ·rename_i e' es l Q;split
    ·rename_i I;intro s;obtain⟨G,H⟩:=(show _/\ _ from s);have L:n.toNat<l.length:=by omega
     have R:=h.ok ob _ Q;obtain⟨us,K,W,_⟩:=R;unfold RV at B;rcases K.2 with⟨N,g2⟩|⟨g,A,z,aa,N,_⟩
     ·omega
     ·refine dW (C g A l.length z (by rw[B.1,N]) G H) (fJ h ?_ ?_)
      ·unfold RV;exact⟨g,_,_,_,N,by rw[I,lN]⟩
      ·unfold NB at p ⊢;exact p
    ·intro s;exact s.elim
   ·rename_i e' es mask l g' hole Q;split
    ·rename_i I;intro s;obtain⟨G,H⟩:=(show _/\ _ from s);have L:n.toNat<l.length:=by omega
     have R:eB F w e' es mask l (κ ob).v (κ g').r hole:=h.ok ob _ Q;obtain⟨us,K,_⟩:=R.mem;unfold RV at B;rcases K.2 with⟨N,g2⟩|⟨g,A,z,aa,N,_⟩
     ·omega
     ·refine dW (C g A l.length z (by rw[B.1,N]) G H) (fJ h ?_ ?_)
      ·unfold RV;exact⟨g,_,_,_,N,by rw[I,lN]⟩
      ·unfold NB at p ⊢;exact p
    ·intro s;exact s.elim
   ·intro s;exact s.elim
  ·rename_i ob g k' j y;exact X el E k n ob g k' j O hi y
  ·rename_i ob g k' j es lo m y;rw[y]at B p;split
   ·rename_i I;intro s;obtain⟨G,H⟩:=(show _/\ _ from s);unfold RV at B;obtain⟨a,m',z,q1,q2,q3,q4,q5⟩:=B;rcases q4 with q4|⟨b,f,rfl⟩
    ·omega
    ·rw[if_neg (by omega),gW,Addr.add_lit]at q5;refine dW (C b (f+lo*es) m (z-lo) q5 G H) (fJ h ?_ ?_)
     ·unfold RV;refine⟨b,f,_,_,q1,?_⟩;rw[<-I,lN,iD,j5]
     ·unfold NB at p ⊢;exact p
   ·intro s;exact s.elim
  ·intro s;exact s.elim
 ·rename_i k n O hi;unfold CO;split
  ·rename_i len el size bytes zero _ ac;split
   ·rename_i E hE;have hu:=(S _ _ ac).1;have T:=S _ _ hE;have vi:=jl hi (Z i);have C:∀(b A:Nat),ρ x=.pointer (some ⟨b,A,none⟩)->0<=n->n<len->(execOp ρ o).run P w=.ok (.value (.pointer (some ⟨b,A+n.toNat*E.size,none⟩))) w:=by
     intro b A J h0 Y;unfold execOp;simp only[ho];refine iK _ ?_;have hc:0<=n/\ n<(len:Int):=⟨h0,Y⟩;simp only[Instr.indexAt,Instr.sureAddr,J,vi,asIntOf,Sem.run_bind,Sem.run_pure,Result.andThen_ok,run_underlying hu,hc,and_self,if_true,jm T,zA]
    have B:=Z x;have p:=hn x;split
    ·rename_i ob q y;rw[y]at B p;unfold RV at B;obtain⟨b,V,J⟩:=B;intro s;obtain⟨G,H⟩:=(show _/\ _ from s);refine dW (C _ _ J G H) (fJ h ?_ ?_)
     ·unfold RV;exact⟨b,V,rfl⟩
     ·unfold NB at p ⊢;exact p
    ·rename_i ob es kk j y;rw[y]at B p;unfold RV at B;obtain⟨b,f,n',z,V,J⟩:=B;split
     ·rename_i hq;obtain⟨rfl,rfl⟩:=hq;intro s;obtain⟨G,H⟩:=(show _/\ _ from s);refine dW (C _ _ J G H) (fJ h ?_ ?_)
      ·unfold RV;exact⟨b,f,n',z,V,by rw[iD];congr 3;omega⟩
      ·unfold NB at p ⊢;exact p
     ·intro s;obtain⟨G,H⟩:=(show _/\ _ from s);refine dW (C _ _ J G H) (fJ h ?_ ?_)
      ·unfold RV;exact⟨b,f,n',z,V,by simp only[j5]⟩
      ·unfold NB at p ⊢;exact p
    ·rename_i ob g kk j es q c y;rw[y]at B p;unfold RV at B;obtain⟨b,f,n',z,V,J⟩:=B;intro s;obtain⟨G,H⟩:=(show _/\ _ from s);refine dW (C _ _ J G H) (fJ h ?_ ?_)
     ·unfold RV;exact⟨b,f,n',z,V,by simp only[j5]⟩
     ·unfold NB at p ⊢;exact p
    ·rename_i ds y;rw[y]at B;unfold RV at B;obtain⟨b,q,us,J,hF,D,ab⟩:=B;intro s;obtain⟨G,H⟩:=(show _/\ _ from s);refine dW (C _ _ J G H) (fJ h ?_ (by unfold NB;trivial));unfold RV;refine⟨b,q+n.toNat*E.size,us.drop (n.toNat*E.size),rfl,hF,fun j u M=>?_,ab.drop _⟩;rw[iX]at M;rw[j5];exact D _ u M
    ·intro s;exact s.elim
   ·intro s;exact s.elim
  ·intro s;exact s.elim
 ·intro s;exact s.elim

theorem QA(D:∀t x,ty t=some x->bS P t x)(h:dh cx κ F w U σ){o:Oper}{ρ:Operand->Value}{e:Operand->AV}(Q:∀x,RV κ F w (e x) (ρ x)){x:Operand}{t:TypeId}(R:o.op=.call {callee:=.builtin .len,args:= #[x],argTypes:= #[t]})
  (C:∀ob g k j,(∃el N u z q,ty t=some ⟨.slice el,N,u,z,q⟩)->e x=.row ob g k j->dP P cx κ F w U nm σ o ρ (p8 σ ob g k j)):
  dP P cx κ F w U nm σ o ρ (tu ty σ t (e x)):=by
 have E:∀v,(Builtin.len_ #[t] o.type #[ρ x]).run P w=.ok v w->(execOp ρ o).run P w=.ok (.value v) w:=by
  intro v T;unfold execOp;simp only[R,resolve,invoke,builtin,Sem.run_bind,Sem.run_pure,Result.andThen_ok,rG,dX,jv,T]
 have d:=Q x;unfold tu;split
 ·rename_i N u z p;have K:=(D _ _ p).1;split
  ·rename_i s J;refine jr h rfl fun _=>E _ ?_;rw[uQ J d];simp only[Builtin.len_,uh,mM,Sem.run_bind,run_underlying K,Result.andThen_ok,goInt,Sem.run_pure]
  ·intro B;exact B.elim
 ·rename_i N u z el p;have K:=(D _ _ p).1;have b:∀a n f,ρ x=.slice a n f->(execOp ρ o).run P w=.ok (.value (.int .i64 n)) w:=fun a n f L=>E _ (by
   rw[L];simp only[Builtin.len_,uh,mM,Sem.run_bind,run_underlying K,Result.andThen_ok,goInt,Sem.run_pure])
  split
  ·rename_i es l c;rw[c]at d;unfold RV RD at d;obtain⟨a,f,L,_⟩:=d;exact jr h rfl fun _=>b _ _ _ L
  ·rename_i c;rw[c]at d;unfold RV RD at d;exact jr h rfl fun _=>by simpa using b _ _ _ d.1
  ·rename_i ob c;rw[c]at d;unfold RV at d;split
   ·rename_i e' es l A;obtain⟨us,i,S,_⟩:=h.ok ob _ A;refine jr h rfl fun _=>?_;rcases i.2 with⟨y,H⟩|⟨g,M,f,G,y,_⟩
    ·rw[H];exact b _ _ _ (by rw[d.1,y])
    ·exact b _ _ _ (by rw[d.1,y])
   ·rename_i e' es mask l O hole A;have I:eB F w e' es mask l (κ ob).v (κ O).r hole:=h.ok ob _ A;obtain⟨us,i,_⟩:=I.mem;refine jr h rfl fun _=>?_;rcases i.2 with⟨y,H⟩|⟨g,M,f,G,y,_⟩
    ·rw[H];exact b _ _ _ (by rw[d.1,y])
    ·exact b _ _ _ (by rw[d.1,y])
   ·intro B;exact B.elim
  ·rename_i ob g k j c;exact C ob g k j ⟨_,_,_,_,_,p⟩ c
  ·rename_i ob g k j es lo m c;rw[c]at d;unfold RV at d;obtain⟨a,W,f,_,_,_,_,V⟩:=d;exact jr h rfl fun _=>b _ _ _ V
  ·intro B;exact B.elim
 ·intro B;exact B.elim

end
end
section
section
variable{P:Program}{cx:Cx}{κ:dx}{F:Nat->Prop}{w:World}{U:Nat->Prop}{nm:Nat}{σ:bJ}{ty:TypeId->Option bD}{Γ:Nat->Option dJ}

theorem mJ{α:Type}{l xs:List α}{i:Nat}(h:i+xs.length<=l.length):(spl l i xs).length=l.length:=by
 simp only[spl,gu,eF,gY];omega

theorem nX{α:Type}{l xs:List α}{i:Nat}(h:i+xs.length<=l.length)(n:Nat):(spl l i xs)[n]? =if n<i then l[n]? else if n<i+xs.length then xs[n-i]? else l[n]?:=by
 unfold spl;have e:(l.take i).length=i:=by rw[eF];omega
 by_cases a:n<i
 ·rw[if_pos a,eU,jK (by omega),kL a]
 ·rw[if_neg a];by_cases b:n<i+xs.length
  ·rw[if_pos b,eU,kg (by omega),e,jK (by omega)]
  ·rw[if_neg b,kg (by rw[gu,e];omega),iX];congr 1;rw[gu,e];omega

theorem Ip{α:Type}{l xs:List α}{i n:Nat}(h:i+xs.length<=n)(b:n<=l.length):(spl l i xs).take n=spl (l.take n) i xs:=by
 apply rJ;intro m;rw[nX (by rw[eF];omega)];by_cases a:m<n
 ·rw[kL a,nX (by omega),kL a]
 ·rw[lC (by rw[eF];omega),if_neg (by omega),if_neg (by omega),lC (by rw[eF];omega)]

theorem Io{α:Type}{l xs:List α}{f i:Nat}(h:f+i+xs.length<=l.length):(spl l (f+i) xs).drop f=spl (l.drop f) i xs:=by
 apply rJ;intro m;rw[nX (by rw[gY];omega),iX,nX (by omega),iX];by_cases a:m<i
 ·rw[if_pos (show f+m<f+i by omega),if_pos a]
 ·rw[if_neg (show¬f+m<f+i by omega),if_neg a];by_cases b:m<i+xs.length
  ·rw[if_pos (show f+m<f+i+xs.length by omega),if_pos b,show f+m-(f+i)=m-i by omega]
  ·rw[if_neg (show¬f+m<f+i+xs.length by omega),if_neg b]
theorem G6{α:Type}{l xs:List α}{a es j:Nat}(h:j+xs.length<=es)(k:a+es<=l.length):
  l.take a++spl ((l.drop a).take es) j xs++l.drop (a+es)=spl l (a+j) xs:=by
 have b:(spl ((l.drop a).take es) j xs).length=es:=by rw[mJ (by rw[eF,gY];omega),eF,gY];omega
 have e:l.take a++spl ((l.drop a).take es) j xs++l.drop (a+es)=spl l a (spl ((l.drop a).take es) j xs):=by unfold spl;rw[<-spl,b]
 rw[e];apply rJ;intro n;rw[nX (l:=l) (i:=a) (by rw[b];exact k),nX (l:=l) (i:=a+j) (xs:=xs) (by omega),b];by_cases c:n<a
 ·rw[if_pos c,if_pos (by omega)]
 ·rw[if_neg c];by_cases d:n<a+es
  ·rw[if_pos d,nX (l:=(l.drop a).take es) (by rw[eF,gY];omega)];by_cases f:n-a<j
   ·rw[if_pos f,if_pos (by omega),kL (by omega),iX];congr 1;omega
   ·rw[if_neg f];by_cases g:n-a<j+xs.length
    ·rw[if_pos g,if_neg (by omega),if_pos (by omega)];congr 1;omega
    ·rw[if_neg g,if_neg (by omega),if_neg (by omega),kL (by omega),iX];congr 1;omega
  ·rw[if_neg d,if_neg (by omega),if_neg (by omega)]

theorem bQ.spl{l xs:List AV}{us vs:List Value}{i:Nat}(h:bQ κ F w l us)(a:bQ κ F w xs vs):bQ κ F w (Ab.spl l i xs) (Ab.spl us i vs):=by
 unfold Ab.spl;rw[a.length];exact((h.take i).app a).app (h.drop _)
theorem RC.spl{l xs:List D}{us vs:List Value}{i:Nat}(h:RC F w l us)(a:RC F w xs vs):RC F w (Ab.spl l i xs) (Ab.spl us i vs):=by
 unfold Ab.spl;rw[a.length];exact((h.take i).app a).app (h.drop _)
theorem bN.spl{l xs:List AV}{i:Nat}(h:bN U l)(a:bN U xs):bN U (Ab.spl l i xs):=by
 unfold Ab.spl;exact((h.take i).app a).app (h.drop _)

theorem zL:∀{l:List AV}{ds:List D},jG l=some ds->l=ds.map .dat
 |[],ds,h=>by simp[jG]at h;subst h;rfl
 |x::l,ds,h=>by
  unfold jG at h;split at h
  ·rename_i d b hd a;simp only[bU]at h;subst h;have:=zL a;cases x<;>simp[AV.oF]at hd
   subst hd;simp[this]
  ·cases h

theorem zN:∀{l:List D}{us:List Value},bQ κ F w (l.map .dat) us->RC F w l us
 |[],us,h=>by simp only[jv]at h;unfold bQ at h;unfold RC;exact h
 |d::ds,us,h=>by
  simp only[dX]at h;unfold bQ at h;obtain⟨u,a,c,e,b,f⟩:=h;unfold RV at b;unfold RC;exact⟨u,a,c,e,b,zN f⟩

theorem yT{d:D}{v:Value}(b:one v=true)(h:RD F w d v):RC F w d.cells [v]:=by
 have a:∀l,d≠.agg l:=by
  rintro l rfl;unfold RD at h;obtain⟨cs,rfl,_⟩:=h;simp[one]at b
 have e:d.cells=[d]:=by cases d<;>first|rfl|exact absurd rfl (a _)
 rw[e];unfold RC;exact⟨v,[],rfl,b,h,by unfold RC;rfl⟩

theorem zR{o:Oper}{ρ:Operand->Value}{t:TypeId}{T:bD}(h:bS P t T){a x:Operand}(m:o.op=.store t a x){b i:Nat}(l:ρ a=.pointer (some ⟨b,i,none⟩))
  {c:Array Value} {d:TypeId} {fz:Nat×Nat} (hb:w.heap[b]? =some (.cells c d fz)) (p:∀j,j<c.size->(decide (fz.1<=j)&&decide (j<fz.2))=false) (g:(ρ x).cells.size=T.size) (e:i+(ρ x).cells.size<=c.size) (k:∀u∈(ρ x).cells.toList,one u=true):
  (execOp ρ o).run P w=.ok .skip (w.setRow b (spl c.toList i (ρ x).cells.toList).toArray):=by
 unfold execOp;simp only[m];refine Gu _ ?_;have f:=DJ P b i d fz (ρ x).cells.toList 0 c w hb p (by simpa using e) (fun v n=>by rw[yS];exact k v n);simp only[lN]at f;simp only[Instr.storeAt,Instr.sureAddr,l,Sem.run_bind,Sem.run_pure,Result.andThen_ok,storeVar,jm h,g,ne_eq,not_true_eq_false,if_false,f,spl]

theorem Ce{p:Prop}{rd:List Nat}{o:Nat}{x:bH}{w':World}(h:kT cx κ F w U κ F w' (Un U nm) (upd σ o (some x))):
  SR cx κ F w U nm σ (.bR p rd .und [(o,some x)]) undef w':=
 ⟨.und,_,κ,F,⟨rfl,rfl⟩,h,by unfold RV;rfl,by unfold NB;trivial⟩

theorem Rx(ai:∀t x,ty t=some x->bS P t x)(h:dh cx κ F w U σ){o:Oper}{ρ:Operand->Value}{e:Operand->AV}(he:∀x,RV κ F w (e x) (ρ x))(hn:∀x,NB U (e x)){t:TypeId}{a x:Operand}(ho:o.op=.store t a x)
  (Z:∀T cs ob es k j,ty t=some T->(e x).cells=some cs->cs.length=T.size->e a=.eref ob es k j->dP P cx κ F w U nm σ o ρ (nW ty σ nm ob es k j cs))
  (Y:∀T cs ds ob g k j es i c,ty t=some T->(e x).cells=some cs->cs.length=T.size->jG cs=some ds->e a=.fH ob g k j es i c->dP P cx κ F w U nm σ o ρ (nV ty σ ob g k j es i c ds)):
  dP P cx κ F w U nm σ o ρ (spec ty Γ σ e nm o):=by
 have hs:spec ty Γ σ e nm o=nZ ty σ nm t (e a) (e x):=by unfold spec;simp only[ho]
 rw[hs];unfold nZ;split
 ·rename_i T cs hT M;have aa:=ai t T hT;obtain⟨hc,R⟩:=qR M (he x) (hn x);have B:(ρ x).cells.size=cs.length:=by rw[<-iF];exact hc.length
  split
  ·rename_i z;have Q:=he a;split
   ·rename_i ob i A;rw[A]at Q;unfold RV at Q;obtain⟨b,I,hρ⟩:=Q;split
    ·rename_i l s;split
     ·rename_i aj;intro _;obtain⟨y,arr,k1,k2,k3⟩:=h.ok ob _ s;rw[I]at k1;simp at k1;subst k1;have ao:arr.size=l.length:=by rw[<-iF];exact k3.length
      have L:∀y,F y->(w.setRow b (spl arr.toList i (ρ x).cells.toList).toArray).heap[y]? =w.heap[y]?:=fun y K=>
       setRow_other w b y _ fun e'=>(h.free ob _ s b (.inl (by rw[I];rfl))).1 (e'▸K)
      have V:=(h.nb ob _ s).2;refine xB (zR aa ho hρ k2 (by simp) (by rw[B,z]) (by rw[B];omega) hc.ones) (Ce (zP h s rfl rfl rfl (by simp) (fun y _ O=>setRow_other w b y _ fun e'=>O (.inl (by rw[I,e'];rfl))) (fun _ h=>h) ?_ (bN.spl V R)));exact⟨b,_,I,setRow_heap w b arr _ _ _ k2,by
       exact bQ.mono (fun _ _=>rfl) (fun _ hb=>hb) L (bN.spl V R) (k3.spl hc)⟩
     ·intro q;exact q.elim
    ·intro q;exact q.elim
   ·rename_i ob es k j A;rw[A]at Q;unfold RV at Q;obtain⟨b,f,n,ak,I,hρ⟩:=Q;split
    ·rename_i e' es' l ds s N;have ad:=zL N;subst ad;have af:=zN hc;split
     ·rename_i ah;subst ah;split
      ·rename_i E hE;split
       ·rename_i am;obtain⟨us,W,J,X⟩:=h.ok ob _ s;have au:=J.length;have ac:∃r m eb fz,w.heap[b]? =some (.cells r eb fz)/\ rO e' r.size fz/\ l.length<=m/\ m<=maxLen/\ f+m*es<=r.size/\ (r.toList.drop f).take (l.length*es)=us/\ (κ ob).v=.slice (some ⟨b,f,none⟩) l.length m:=by
         rcases W.2 with⟨H,_⟩|⟨g,ax,m,r,H,⟨eb,fz,g2,gz⟩,g3,g4,g5,g6⟩
         ·rw[I]at H;simp at H
         ·have ab:=H;rw[I]at H;simp at H;obtain⟨⟨rfl,rfl⟩,_,rfl⟩:=H;exact⟨r,_,eb,fz,g2,gz,g3,g4,g5,g6,ab⟩
        obtain⟨r,m,eb,fz,c1,cz,c2,c3,c4,c5,c6⟩:=ac;have key:∀(d:D),k<l.length->j+ds.length<=es->RC F w d.cells (spl ((us.drop (k*es)).take es) j (ρ x).cells.toList)->
          ∀{p:Prop}{rd:List Nat},Out P o ρ w (SR cx κ F w U nm σ (.bR p rd .und [(ob,some (.arr e' es (l.set k d)))])):=by
         intro d S hj hd p rd;have ap:(k+1)*es<=l.length*es:=l8 _ S;have aq:l.length*es<=m*es:=l8 _ c2;have ar:(k+1)*es=k*es+es:=by rw[iD,nH]
         have C:(ρ x).cells.toList.length=ds.length:=by rw[iF,B,iy]
         have ae:f+m*es<=r.toList.length:=by rw[iF];exact c4
         have aw:(ρ x).cells.size=ds.length:=by rw[B,iy]
         have L:∀y,F y->(w.setRow b (spl r.toList (f+(k*es+j)) (ρ x).cells.toList).toArray).heap[y]? =w.heap[y]?:=fun y K=>
          setRow_other w b y _ fun e'=>(h.free ob _ s b (.inl (by rw[I];rfl))).1 (e'▸K)
         refine xB (zR aa ho hρ c1 (fun _ hj=>cz.not hj) (by rw[B,z]) (by omega) hc.ones) (Ce (zP h s rfl rfl rfl (by simp) (fun y _ O=>setRow_other w b y _ fun e'=>O (.inl (by rw[I,e'];rfl))) (fun _ h=>h) ?_ trivial));have G:=RE.set k d _ J S hd (by rw[mJ (by rw[eF,gY,C];omega),eF,gY];omega);rw[G6 (by rw[C];exact hj) (by omega)]at G;refine⟨_,⟨?_,.inr ⟨b,f,m,_,?_,⟨_,_,setRow_heap w b r _ eb _ c1,by rwa [show(List.toArray (spl r.toList (f+(k*es+j)) (ρ x).cells.toList)).size=r.size by rw[pG,mJ (by rw[C];omega)];rfl]⟩,?_,c3,?_,?_⟩⟩,RE.mono (fun _ hb=>hb) L G,X⟩
         ·rw[G.length]
         ·rw[gH];exact c6
         ·rw[gH];exact c2
         ·simp only[pG];rw[mJ (by rw[C];omega)];exact ae
         ·rw[List.toList_toArray,gH,Io (by rw[C];omega),Ip (by rw[C];omega) (by rw[gY];omega),c5]
        split
        ·rename_i hg;intro q;obtain⟨p1,p2⟩:=(show _/\ _ from q);obtain⟨r1,r2⟩:=RE.at k _ J (jR (d:=.sc undef) p1);exact key (.agg _) p1 p2 (RC.spl r1 af)
        ·rename_i hg;split
         ·rename_i d;split
          ·rename_i h1;subst h1;intro q;obtain⟨p1,rfl⟩:=(show _/\ _ from q);simp only[dX,jv]at hc B;unfold bQ at hc;obtain⟨u,ay,H,g2,g3,g4⟩:=hc;unfold bQ at g4;subst g4;unfold RV at g3;obtain⟨r1,r2⟩:=RE.at k _ J (jR (d:=.sc undef) p1);refine key d p1 (by simp) ?_;rw[H];have:spl ((us.drop (k*1)).take 1) 0 [u]=[u]:=by
            unfold spl;rw[oC,jD];simp only[gZ,mq,j4];rw[Eb (by omega)];rfl
           rw[this];exact yT g2 g3
          ·intro q;exact q.elim
         ·intro q;exact q.elim
       ·intro q;exact q.elim
      ·intro q;exact q.elim
     ·intro q;exact q.elim
    ·exact Z T cs ob es k j hT M z A
    ·intro q;exact q.elim
   ·rename_i ob g k j es i c A;split
    ·rename_i ds N;exact Y T cs ds ob g k j es i c hT M z N A
    ·intro q;exact q.elim
   ·intro q;exact q.elim
  ·intro q;exact q.elim
 ·intro q;exact q.elim

end
end
section
section
variable{P:Program}{cx:Cx}{κ:dx}{F:Nat->Prop}{w:World}{U:Nat->Prop}{nm:Nat}{σ:bJ}{ty:TypeId->Option bD}{Γ:Nat->Option dJ}

theorem RE.drop{es:Nat}:∀(n:Nat){l:List D}{us:List Value},RE F w es l us->RE F w es (l.drop n) (us.drop (n*es))
 |0,l,us,h=>by simpa using h
 |n+1,[],us,h=>by unfold RE at h;subst h;simp only[List.drop_nil];unfold RE;rfl
 |n+1,d::ds,us,h=>by
  obtain⟨u,c,rfl,a,f,b⟩:=h.cons;have e:(n+1)*es=u.length+n*es:=by rw[iD,a];omega
  rw[List.drop_succ_cons,e,List.drop_length_add_append];exact RE.drop n b
theorem RE.take{es:Nat}:∀(n:Nat){l:List D}{us:List Value},RE F w es l us->RE F w es (l.take n) (us.take (n*es))
 |0,l,us,h=>by simp only[oC,o8];unfold RE;rfl
 |n+1,[],us,h=>by unfold RE at h;subst h;simp only[List.take_nil];unfold RE;rfl
 |n+1,d::ds,us,h=>by
  obtain⟨u,f,rfl,a,b,c⟩:=h.cons;have e:(n+1)*es=u.length+n*es:=by rw[iD,a];omega
  rw[Ao,e,List.take_length_add_append];exact RE.mk a b (RE.take n c)

theorem qW(v:Value):(∃a n c,v=.slice a n c)->v.ownBlock=blk v:=by
 rintro⟨a,n,c,rfl⟩;cases a<;>rfl

theorem xK(t k e:TypeId)(i:TypeInfo)(z:Value)(G:P.underlying t=some (.slice e))(hi:P.info? e=some i)(H:i.zero=some z)
  (q:z.cells.size=i.size) (p:0<i.size)
  (v:Value) (n:Nat) (xs:List Value) (f:Own w e i.size v n xs)
  (a:Option Addr) (m c:Nat) (o:a=none->m=0/\ c=0) (b:List Value) (E:b.length=m*i.size) (g:∀r,a=some r->∀j u,b[j]? =some u->w.cell? (r.add j)=some u) (D:∀u∈b,u.oneCell'=true)
  (l:n+m<=maxLen) (d:(n+m)*i.bytes<=140737488355328):
  ∃h w',(Builtin.append_ #[t,t] k #[v,.slice a m c]).run P w=.ok h w'/\ Own w' e i.size h (n+m) (xs++b)/\ w.grownBy w' v.ownBlock/\
   (blk h=blk v \/blk h=some w.heap.size):=by
 obtain⟨h,w',B,s,C,x⟩:=Si (P:=P) (w:=w) t k e i z G hi H q p v n xs f a m c o b E g D l d;obtain⟨I,K,y⟩:=s.slice;obtain⟨J,L,A⟩:=f.slice;rw[qW h ⟨_,_,_,y⟩,qW v ⟨_,_,_,A⟩]at x;exact⟨h,w',B,s,C,x⟩

def uE(σ:bJ):Option Nat->bJ
 |some o=>upd σ o none
 |none=>σ

theorem xE(h:dh cx κ F w U σ)(hf:¬U nm){v A:Value}{w':World}{oo:Option Nat}(E:∀o,oo=some o->(∃x,σ o=some x)/\ (κ o).v=v)(H:oo=none->blk v=none)
  (s:w.grownBy w' v.ownBlock) (T:∃a n c,v=.slice a n c) (B:blk A=blk v \/blk A=some w.heap.size) {e:TypeId} {es:Nat} {l:List D} {us:List Value}
  (I:Own w' e es A l.length us) (S:RE F w es l us) (N:0<es):
  kT cx κ F w U (fun n=>if n=nm then kv A else κ n) F w' (Un U nm) (upd (uE σ oo) nm (some (.arr e es l))):=by
 have L:=Co (κ:=κ) hf (kv A);have p:=qW v T;rw[p]at s;have i:∀b,blk v=some b->¬F b/\ ¬cx.K b/\ cx.G b:=by
  intro b hb;cases oo with
  |none=>rw[H rfl]at hb;cases hb
  |some o=>
   obtain⟨⟨x,V⟩,z⟩:=E o rfl;exact h.free o x V b (.inl (by rw[z];exact hb))
 have u:∀b,b<w.heap.size->blk v≠some b->w'.heap[b]? =w.heap[b]?:=fun b hb d=>s.block b hb fun e=>d e.symm;have q:∀b,F b->w'.heap[b]? =w.heap[b]?:=fun b hb=>u b (h.fG b hb).2 fun e=>(i b e).1 hb;have m:∀o y,upd (uE σ oo) nm (some (.arr e es l)) o=some y->o≠nm->σ o=some y/\ oo≠some o:=by
  intro o y f d;rw[jq d]at f;cases oo with
  |none=>exact⟨f,by simp⟩
  |some o'=>
   simp only[uE]at f;by_cases M:o=o'
   ·subst M;rw[iP]at f;cases f
   ·rw[jq M]at f;exact⟨f,by simp;exact fun e=>M e.symm⟩
 have C:∀o y,σ o=some y->oo≠some o->∀b,dw κ o y b->blk v≠some b:=by
  intro o y f Q b hb p;cases oo with
  |none=>rw[H rfl]at p;cases p
  |some o'=>
   obtain⟨⟨x,V⟩,z⟩:=E o' rfl;exact h.apart o y o' x f V (fun e=>Q (by rw[e])) b hb (.inl (by rw[z];exact p))
 have g:∀o y,upd (uE σ oo) nm (some (.arr e es l)) o=some y->∀b,dw (fun n=>if n=nm then kv A else κ n) o y b->
   (o=nm/\ (blk v=some b \/b=w.heap.size)) \/(o≠nm/\ σ o=some y/\ dw κ o y b/\ b<w.heap.size/\ blk v≠some b):=fun o y f b hb=>by
  by_cases d:o=nm
  ·subst d;rw[iP]at f;cases f;have hb:blk A=some b:=by
    rcases hb with hb|hb
    ·simpa using hb
    ·exact hb.elim
   refine .inl ⟨rfl,?_⟩;rcases B with hb'|hb'
   ·exact .inl (by rw[<-hb'];exact hb)
   ·rw[hb']at hb;simp at hb;exact .inr hb.symm
  ·obtain⟨k,h2⟩:=m o y f d;have t:=h.nb o y k;have hb:=hb.pO L t.1 t.2;exact .inr ⟨d,k,hb,kX h k hb,C o y k h2 b hb⟩
 refine⟨L,fun _ hb=>hb,⟨s.os,s.tape,s.output,s.size,fun b hb=>?_⟩,fun _ R=>fF R,?_,?_,?_,?_,fun b hb=>⟨(h.fG b hb).1,kH (h.fG b hb).2 s.size⟩,h.kB,h.gB,pz h.bs s.size,h.inv.mono (fun _ hb=>hb) q,fun j O=>⟨fF (h.lt j O).1,(congrArg KV.v (L j (h.lt j O).1)).trans (h.lt j O).2⟩⟩
 ·rcases hb with hb|hb
  ·exact q b hb
  ·exact u b (kH (h.kB b hb) h.bs) fun e=>(i b e).2.1 hb
 ·intro o y f;by_cases d:o=nm
  ·subst d;rw[iP]at f;cases f;exact⟨us,by simpa using I,RE.mono (fun _ hb=>hb) q S,N⟩
  ·obtain⟨k,h2⟩:=m o y f d;have t:=h.nb o y k;exact iH.mono L (fun _ hb=>hb) q t.1 t.2 (fun b hb=>u b (kX h k hb) (C o y k h2 b hb)) (h.ok o y k)
 ·intro o y f;by_cases d:o=nm
  ·subst d;rw[iP]at f;cases f;exact⟨.inr ⟨dQ _,by omega⟩,trivial⟩
  ·have t:=h.nb o y (m o y f d).1;exact⟨fF t.1,gG.mono (fun _ R=>fF R) t.2⟩
 ·intro o y f b hb;rcases g o y f b hb with⟨_,hb'|rfl⟩|⟨_,r,hb',_⟩
  ·exact i b hb'
  ·exact⟨fun hF=>by have:=(h.fG _ hF).2;omega,fun hK=>by have:=h.kB _ hK;have:=h.bs;omega,h.gB _ h.bs⟩
  ·exact h.free o y r b hb'
 ·intro o y o' W f r d b hb hb';rcases g o y f b hb with⟨k,h2⟩|⟨k,g1,g2,g3,g4⟩
  ·rcases g o' W r b hb' with⟨J,h4⟩|⟨J,X,Y,k3,Z⟩
   ·exact d (k.trans J.symm)
   ·rcases h2 with h2|h2
    ·exact Z h2
    ·omega
  ·rcases g o' W r b hb' with⟨J,h4⟩|⟨J,X,Y,k3,Z⟩
   ·rcases h4 with h4|h4
    ·exact g4 h4
    ·omega
   ·exact h.apart o y o' W g1 X d b g2 Y

theorem Dh(h:dh cx κ F w U σ){es:Nat}{x:AV}{l:List D}{rd:List Nat}(d:lS σ es x=some (l,rd)){v:Value}(r:RV κ F w x v):
  ∃a c us,v=.slice a l.length c/\ (a=none->l.length=0/\ c=0)/\ us.length=l.length*es/\ RE F w es l us/\ ∀t,a=some t->∀j u,us[j]? =some u->w.cell? (t.add j)=some u:=by
 unfold lS at d;split at d
 ·rename_i es' l';split at d
  ·rename_i q;simp only[bU,eY]at d;obtain⟨rfl,rfl⟩:=d;subst q;unfold RV RD at r;obtain⟨a,m,E,K,L,z,H⟩:=r;rcases H with rfl|⟨b,J,us,rfl,hF,s,n,p⟩
   ·refine⟨a,m,[],E,fun I=>⟨rfl,z I⟩,by simp,by unfold RE;rfl,by simp⟩
   ·exact⟨_,m,us,E,by simp,s,p,fun t k j u A=>by simp at k;subst k;rw[Addr.add_lit];exact n j u A⟩
  ·cases d
 ·simp only[bU,eY]at d;obtain⟨rfl,rfl⟩:=d;unfold RV RD at r;exact⟨none,0,[],r.1,fun _=>⟨rfl,rfl⟩,by simp,by unfold RE;rfl,by simp⟩
 ·rename_i o;split at d
  ·rename_i e es' l' B;split at d
   ·rename_i q;simp only[bU,eY]at d;obtain⟨rfl,rfl⟩:=d;subst q;obtain⟨us,i,p,_⟩:=h.ok o _ B;unfold RV at r;rcases i.2 with⟨y,C⟩|⟨g,f,m,G,y,_⟩
    ·refine⟨none,0,us,by rw[r.1,y,C],fun _=>⟨C,rfl⟩,i.1,p,by simp⟩
    ·exact⟨_,m,us,by rw[r.1,y],by simp,i.1,p,fun t k j u A=>by
      simp at k;subst k;rw[Addr.add_lit];exact i.cells y j u A⟩
   ·cases d
  ·cases d
 ·cases d

theorem RL(ac:∀t x,ty t=some x->bS P t x)(h:dh cx κ F w U σ)(hf:¬U nm){o:Oper}{ρ:Operand->Value}{e:Operand->AV}(he:∀x,RV κ F w (e x) (ρ x)){x y:Operand}{t S:TypeId}
  (ho:o.op=.call {callee:=.builtin .append,args:= #[x,y],argTypes:= #[t,S]})
  (O:∀el E V,iY ty t=some (el,E)->t=S->0<E.size->E.zero.cells.size=E.size->e y=.own V->dP P cx κ F w U nm σ o ρ (qm σ nm el E (e x) V))
  (M:∀el E ob g k j C rd,iY ty t=some (el,E)->t=S->0<E.size->E.zero.cells.size=E.size->e x=.row ob g k j->lS σ E.size (e y)=some (C,rd)->dP P cx κ F w U nm σ o ρ (oZ σ nm el E ob g k j C rd)):
  dP P cx κ F w U nm σ o ρ (vE ty σ nm t S (e x) (e y)):=by
 have R:∀v w',(Builtin.append_ #[t,S] o.type #[ρ x,ρ y]).run P w=.ok v w'->(execOp ρ o).run P w=.ok (.value v) w':=by
  intro v w' hv;unfold execOp;simp only[ho,resolve,invoke,builtin,Sem.run_bind,Sem.run_pure,Result.andThen_ok,rG,dX,jv,hv]
 unfold vE;split
 ·rename_i el E D;obtain⟨T,ad⟩:=nD ac D;obtain⟨_,i,i1,r,i3,i4,_⟩:=ad;split
  ·rename_i hc;obtain⟨rfl,b,z⟩:=hc;split
   ·rename_i C rd N;obtain⟨a2,c2,H,Q,I,B,p,f⟩:=Dh h N (he y);have q:∀u∈H,u.oneCell'=true:=fun u T=>by rw[yS];exact p.ones u T
    split
    ·rename_i m;have G:=he x;rw[m]at G;unfold RV RD at G;intro d;obtain⟨p1,p2⟩:=(show _/\ _ from d);obtain⟨v',w',W,s,X,Y⟩:=xK (P:=P) (w:=w) t o.type el i E.zero T i1 i4 (by rw[z,r]) (by rw[r];exact b) (.slice none 0 0) 0 [] (by rw[r];exact Own.nil w el E.size)
      a2 C.length c2 I H (by rw[r];exact B) f q (by unfold maxLen;omega) (by rw[i3,j4];omega)
     rw[r]at s;simp only[j4,jD]at s;refine dW (R _ _ (by rw[G.1,Q];exact W)) ?_;refine⟨.own nm,_,(fun n=>if n=nm then kv v' else κ n),F,⟨rfl,rfl⟩,?_,?_,jA _ fI⟩
     ·exact xE h hf (v:=.slice none 0 0) (oo:=none) (by simp) (by simp[blk]) X ⟨_,_,_,rfl⟩ Y s p b
     ·unfold RV;obtain⟨a,c,e'⟩:=Own.slice s;exact⟨by simp,by rw[e'];rfl⟩
    ·rename_i ob m;have G:=he x;rw[m]at G;unfold RV at G;split
     ·rename_i e' es l L;split
      ·rename_i Z;obtain⟨rfl,rfl⟩:=Z;obtain⟨us,A,ab,_⟩:=h.ok ob _ L;intro d;obtain⟨p1,p2⟩:=(show _/\ _ from d);obtain⟨v',w',W,s,X,Y⟩:=xK (P:=P) (w:=w) t o.type e' i E.zero T i1 i4 (by rw[z,r]) (by rw[r];exact b) (κ ob) l.length us (by rw[r];exact A)
        a2 C.length c2 I H (by rw[r];exact B) f q (by unfold maxLen;omega) (by rw[i3];omega)
       rw[r]at s;have J:(l++C).length=l.length+C.length:=gu;rw[<-J]at s;refine dW (R _ _ (by rw[G.1,Q];exact W)) ?_;refine⟨.own nm,_,(fun n=>if n=nm then kv v' else κ n),F,⟨rfl,rfl⟩,?_,?_,jA _ fI⟩
       ·obtain⟨a,c,e'⟩:=Own.slice A;exact xE h hf (v:=κ ob) (oo:=some ob) (fun o' K=>by simp at K;subst K;exact⟨⟨_,L⟩,rfl⟩) (by simp) X ⟨_,_,_,e'⟩ Y s (RE.app ab p) b
       ·unfold RV;obtain⟨a,c,e'⟩:=Own.slice s;exact⟨by simp,by rw[e'];rfl⟩
      ·intro d;exact d.elim
     ·intro d;exact d.elim
    ·rename_i ob g k j m;exact M el E ob g k j C rd D rfl b z m N
    ·intro d;exact d.elim
   ·split
    ·rename_i V aa;exact O el E V D rfl b z aa
    ·intro d;exact d.elim
  ·intro d;exact d.elim
 ·intro d;exact d.elim

theorem Qb(cs:List Value):∀(b j:Nat)(c:Array Value),b+j+cs.length<=c.size->
  ((cs.zipIdx j).foldl (fun a (x:Value×Nat)=>a.setIfInBounds (b+x.2) x.1) c).toList=spl c.toList (b+j) cs:=by
 induction cs with
 |nil=>intro b j c _;simp[spl]
 |cons v cs g=>
  intro b j c h;simp only[gZ]at h;simp only[List.zipIdx_cons,List.foldl_cons];rw[g b (j+1) _ (by simp;omega)];apply rJ;intro n;have hs:(c.setIfInBounds (b+j) v).toList.length=c.size:=by simp
  rw[nX (by rw[hs];omega),nX (by simp;omega)];simp only[J3,gZ];by_cases d:n<b+j
  ·rw[if_pos d,if_pos (by omega),iN (by omega)]
  ·rw[if_neg d];by_cases f:n=b+j
   ·subst f;rw[if_pos (by omega),if_pos (by omega),j6 (by simp;omega)];simp
   ·rw[if_neg (by omega)];by_cases e:n<b+j+(cs.length+1)
    ·rw[if_pos (by omega),if_pos e,show n-(b+j)=(n-(b+(j+1)))+1 from by omega,D9]
    ·rw[if_neg (by omega),if_neg e,iN (by omega)]

theorem Dm(v:Value)(b:Nat)(c:Array Value)(h:b+v.cells.size<=c.size):
  (v.cells.zipIdx.foldl (fun a (x:Value×Nat)=>a.setIfInBounds (b+x.2) x.1) c)=(spl c.toList b v.cells.toList).toArray:=by
 have:=Qb v.cells.toList b 0 c (by simpa using h);apply qA;rw[<-Array.foldl_toList,Array.toList_zipIdx];simpa using this

theorem Dv{b:Nat->Option (Nat×Nat)}{ρ:Operand->Value}{e:Operand->AV}(n:∀x,RV κ F w (e x) (ρ x))(o:∀x,NB U (e x)):
  ∀(a:List (Nat×Operand))(cells:List AV)(c:Array Value)(out:List AV),bQ κ F w cells c.toList->bN U cells->pR b cells (a.map fun p=>(p.1,e p.2))=some out->
   ∃k,Instr.fill b c (a.map fun p=>(p.1,ρ p.2))=some k/\ bQ κ F w out k.toList/\ bN U out
 |[],cells,c,out,hc,d,h=>by
  simp only[jv,pR,bU]at h;subst h;exact⟨c,rfl,hc,d⟩
 |(i,x)::j,cells,c,out,hc,d,h=>by
  simp only[dX,pR]at h;split at h
  ·rename_i g size cs u l;split at h
   ·rename_i f;obtain⟨z,A⟩:=f;obtain⟨m,s⟩:=qR l (n x) (o x);have v:(ρ x).cells.size=cs.length:=by rw[<-iF];exact m.length
    have t:c.size=cells.length:=by rw[<-iF];exact hc.length
    have y:=Dv n o j (spl cells g cs) (spl c.toList g (ρ x).cells.toList).toArray out (by simpa using hc.spl m) (d.spl s) h;obtain⟨k,q,r⟩:=y;refine⟨k,?_,r⟩;simp only[dX,Instr.fill,u];rw[if_neg (by simp only[mF,decide_eq_true_eq,ne_eq];omega),Dm _ _ _ (by omega)];exact q
   ·cases h
  ·cases h

theorem Rt(k:∀t x,ty t=some x->bS P t x)(h:dh cx κ F w U σ){o:Oper}{ρ:Operand->Value}{e:Operand->AV}(L:∀x,RV κ F w (e x) (ρ x))(N:∀x,NB U (e x)){t:TypeId}{a:Array (Nat×Operand)}(D:o.op=.build t a):
  dP P cx κ F w U nm σ o ρ (spec ty Γ σ e nm o):=by
 have hs:spec ty Γ σ e nm o=xC ty t (a.toList.map fun p=>(p.1,e p.2)):=by unfold spec;simp only[D]
 rw[hs];unfold xC;split
 ·rename_i m size bytes z _ n;split
  ·rename_i hc;obtain⟨r,q⟩:=hc;split
   ·rename_i cells b;intro _;have d:=k _ _ n;have I:=d.1;have H:∀(l:List Field),(∀f∈l,(ty f.type).isSome=true)->(l.mapM fun(f:Field)=>(do pure (f.offset,<-sizeOf f.type):Sem (Nat×Nat))).run P w=.ok (l.map fun f=>(f.offset,((ty f.type).map (·.size)).getD 0)) w:=by
     intro l
     induction l with
     |nil=>intro _;simp
     |cons f l S=>
      intro M;have B:=M f (dU ..);obtain⟨T,hT⟩:=DV.1 B;have K:=S (fun g Q=>M g (dZ _ Q));simp only[List.mapM_cons,Sem.run_bind,jm (k _ _ hT),Result.andThen_ok,Sem.run_pure,K,dX,hT,gW,rC]
    have G:(m.mapM fun(f:Field)=>(do pure (f.offset,<-sizeOf f.type):Sem (Nat×Nat))).run P w=.ok (m.map fun f=>(f.offset,((ty f.type).map (·.size)).getD 0)) w:=by
     have O:=H m.toList (fun f B=>Array.all_eq_true_iff_forall_mem.1 r f (rU.1 B));rw[Array.mapM_eq_mapM_toList,map_eq_pure_bind];simp only[Sem.run_bind,O,Result.andThen_ok,Sem.run_pure];congr 1;apply qA;simp
    have j:(fun i=>(m.map fun f=>(f.offset,((ty f.type).map (·.size)).getD 0))[i]?)=Cy ty m:=by
     funext i;unfold Cy;rw[Array.getElem?_map];cases C:m[i]? with
     |none=>rfl
     |some f=>
      have R:f∈m:=Array.mem_of_getElem? C;obtain⟨T,hT⟩:=DV.1 (Array.all_eq_true_iff_forall_mem.1 r f R);simp[hT]
    obtain⟨s,u,y,A⟩:=Dv L N a.toList _ z.cells cells (CG q) uR b;have J:(a.map fun(i,x)=>(i,ρ x)).toList=a.toList.map fun p=>(p.1,ρ p.2):=by simp
    refine dW (v:=.agg s) (w':=w) ?_ (fJ h (by have:=uY y;simpa using this) (ny A));unfold execOp;simp only[D];refine iK _ ?_;simp only[Instr.build,Sem.run_bind,vB d,Result.andThen_ok,run_underlying I,G,J,j,u,Sem.run_pure]
   ·intro c;exact c.elim
  ·intro c;exact c.elim
 ·rename_i len el size bytes z _ n;split
  ·rename_i E hE;split
   ·rename_i q;split
    ·rename_i cells b;intro _;have d:=k _ _ n;have I:=d.1;obtain⟨s,u,y,A⟩:=Dv L N a.toList _ z.cells cells (CG q) uR b;have J:(a.map fun(i,x)=>(i,ρ x)).toList=a.toList.map fun p=>(p.1,ρ p.2):=by simp
     refine dW (v:=.agg s) (w':=w) ?_ (fJ h (by have:=uY y;simpa using this) (ny A));unfold execOp;simp only[D];refine iK _ ?_;simp only[Instr.build,Sem.run_bind,vB d,Result.andThen_ok,run_underlying I,jm (k _ _ hE),J,u,Sem.run_pure]
    ·intro c;exact c.elim
   ·intro c;exact c.elim
  ·intro c;exact c.elim
 ·intro c;exact c.elim

end
end
section
section
variable{P:Program}{cx:Cx}{κ:dx}{F:Nat->Prop}{w:World}{U:Nat->Prop}{nm:Nat}{σ:bJ}{ty:TypeId->Option bD}{Γ:Nat->Option dJ}

theorem Ch{agg:Bool}{ds:List D}{d:D}(h:qE agg ds=some d){us:List Value}(a:RC F w ds us):RC F w d.cells us:=by
 unfold qE at h;split at h
 ·simp only[bU]at h;subst h;exact a
 ·split at h
  ·simp only[bU]at h;subst h;unfold RC at a;obtain⟨u,f,rfl,c,e,b⟩:=a;unfold RC at b;subst b;exact yT c e
  ·cases h

theorem Jr{agg:Bool}{es:Nat}{ρ:Operand->Value}{e:Operand->AV}(t:∀x,RV κ F w (e x) (ρ x))(u:∀x,NB U (e x)):
  ∀(b:List (Nat×Operand))(k:Nat)(ds:List D)(c:Array Value),qQ agg es k (b.map fun p=>(p.1,e p.2))=some ds->c.size=(k+b.length)*es->
   ∃l us,Instr.fill (fun i=>some (i*es,es)) c (b.map fun p=>(p.1,ρ p.2))=some l/\ l.toList=c.toList.take (k*es)++us/\ RE F w es ds us
 |[],k,ds,c,h,hc=>by
  simp only[jv,qQ,bU]at h;subst h;refine⟨c,[],rfl,?_,by unfold RE;rfl⟩;rw[mD,iw (by simp at hc ⊢;omega)]
 |(i,x)::a,k,ds,c,h,hc=>by
  simp only[dX,qQ]at h;split at h
  ·rename_i n;subst n;split at h
   ·rename_i cs m;split at h
    ·rename_i f;split at h
     ·rename_i v j;split at h
      ·rename_i d r hd B;simp only[bU]at h;subst h;obtain⟨q,H⟩:=qR m (t x) (u x);rw[zL j]at q f;rw[iy]at f;have s:=zN q;have o:(ρ x).cells.size=es:=by rw[<-iF,s.length];exact f
       simp only[gZ]at hc;have C:(i+(a.length+1))*es=i*es+es+a.length*es:=by rw[iD,iD,nH];omega
       have E:(i+1+a.length)*es=i*es+es+a.length*es:=by rw[iD,iD,nH]
       have g:i*es+(ρ x).cells.size<=c.size:=by omega
       obtain⟨l,us,y,z,A⟩:=Jr t u a (i+1) r (spl c.toList (i*es) (ρ x).cells.toList).toArray B (by
        simp only[pG];rw[mJ (by simpa using g),iF];omega)
       refine⟨l,(ρ x).cells.toList++us,?_,?_,RE.mk (by simpa using o) (Ch hd s) A⟩
       ·simp only[dX,Instr.fill];rw[if_neg (by simp only[mF,decide_eq_true_eq,ne_eq];omega),Dm _ _ _ g];exact y
       ·rw[z,<-eU];congr 1;have G:(i+1)*es=i*es+es:=by rw[iD,nH]
        unfold spl;have:(c.toList.take (i*es)++(ρ x).cells.toList).length=(i+1)*es:=by
         rw[gu,eF,iF,iF];omega
        rw[<-this,Ap]
      ·cases h
     ·cases h
    ·cases h
   ·cases h
  ·cases h

theorem SC(A:∀t x,ty t=some x->bS P t x)(h:dh cx κ F w U σ)(K:¬U nm){o:Oper}{ρ:Operand->Value}{e:Operand->AV}(J:∀x,RV κ F w (e x) (ρ x))(L:∀x,NB U (e x)){t:TypeId}{len:Nat}{a:Array (Nat×Operand)}(G:o.op=.buildSlice t len a)
  (q:∀el E ds ns,iY ty t=some (el,E)->a.toList.length=len->len*E.size<=16777216->0<E.size->E.zero.cells.size=E.size->
   lK ty σ nm (jP σ (nA (a.toList.map fun p=>(p.1,e p.2)))) E.isAgg E.size 0 (a.toList.map fun p=>(p.1,e p.2))=some (ds,ns)->
   dP P cx κ F w U nm σ o ρ (.bR ns.Nodup ns (.own nm) (lU ns++[(nm,some (.tab el E.size (jP σ (nA (a.toList.map fun p=>(p.1,e p.2)))) ds nm none))]))):
  dP P cx κ F w U nm σ o ρ (spec ty Γ σ e nm o):=by
 have hs:spec ty Γ σ e nm o=qX ty σ nm t len (a.toList.map fun p=>(p.1,e p.2)):=by unfold spec;simp only[G]
 rw[hs];unfold qX;split
 ·rename_i el E m;obtain⟨N,r⟩:=nD A m;split
  ·rename_i hc;obtain⟨b,z,f,B⟩:=hc;split
   ·rename_i ds g;intro _;rw[iy]at b;have y:∀(l:List (Nat×AV))(k:Nat)(ds:List D),qQ E.isAgg E.size k l=some ds->ds.length=l.length:=by
     intro l
     induction l with
     |nil=>intro k ds d;simp[qQ]at d;subst d;rfl
     |cons p l Q=>
      intro k ds d;obtain⟨i,x⟩:=p;unfold qQ at d;split at d<;>try cases d
      split at d<;>try cases d
      split at d<;>try cases d
      split at d<;>try cases d
      split at d<;>try cases d
      rename_i M;simp[Q _ _ M]
    have c:=y _ _ _ g;rw[iy]at c;obtain⟨H,us,u,C,I⟩:=Jr (F:=F) (w:=w) J L a.toList 0 ds ((Array.range (len*E.size)).map (fun i=>(if len*E.size=0 then #[]else E.zero.cells)[i%(if len*E.size=0 then #[]else E.zero.cells).size]!)) g (by simp[<-b]);simp only[o8,oC,jD]at C;have O:(a.map fun(i,x)=>(i,ρ x)).toList=a.toList.map fun p=>(p.1,ρ p.2):=by simp
    refine dW (v:=.slice (some ⟨w.heap.size,0,none⟩) ds.length ds.length) (w':=w.alloc (.cells H el)) ?_ (GU h K (by rw[C];exact I) f (by
     unfold maxLen;have:ds.length*1<=ds.length*E.size:=DW _ f;have s:ds.length=len:=by rw[c];exact b
     rw[s]at this;omega))
    unfold execOp;simp only[G];refine iK _ ?_;have n:¬(len*E.size>2^24):=by omega
    simp only[Instr.buildSlice,Sem.run_bind,run_underlying N,Result.andThen_ok,jm r,n,if_false,O];have s:ds.length=len:=by rw[c];exact b
    by_cases h0:len*E.size=0
    ·simp only[h0,if_true]at u;simp only[h0,if_true,Sem.run_bind,Sem.run_pure,Result.andThen_ok,u,vC,s]
    ·simp only[h0,if_false]at u;simp only[h0,if_false,Sem.run_bind,vB r,Sem.run_pure,Result.andThen_ok,u,vC,s]
   ·split
    ·split
     ·rename_i ds ns g;exact q el E ds ns m (by rw[<-b,iy]) z f B g
     ·intro j;exact j.elim
    ·intro j;exact j.elim
  ·intro j;exact j.elim
 ·intro j;exact j.elim

theorem C9(z:Array Value)(n:Nat):(madeCells z ((n+1)*z.size)).toList=z.toList++(madeCells z (n*z.size)).toList:=by
 unfold madeCells;simp only[Array.toList_map,Array.toList_range];rw[show(n+1)*z.size=z.size+n*z.size from by rw[iD,nH,xU],List.range_add,oD,uf];congr 1
 ·apply List.ext_getElem
  ·simp
  ·intro i a b;simp only[iy,mo]at a;simp[DX a,a]
 ·apply ug;intro i _;simp[Nat.add_mod_left]

theorem Jv{z:Array Value}{d:D}(h:RC F w d.cells z.toList):∀n,RE F w z.size (List.replicate n d) (madeCells z (n*z.size)).toList
 |0=>by simp only[List.replicate_zero,o8];unfold RE;simp[madeCells]
 |n+1=>by
  rw[C9,List.replicate_succ];exact RE.mk (by simp) h (Jv h n)

theorem QY(v:∀t x,ty t=some x->bS P t x)(h:dh cx κ F w U σ)(G:¬U nm){o:Oper}{ρ:Operand->Value}{e:Operand->AV}(A:∀x,RV κ F w (e x) (ρ x)){t:TypeId}{l c:Operand}(C:o.op=.makeSlice t l c)
  (s:∀(el:TypeId)(E:bD)(k k':IntKind)(n m:Int)(d:D),iY ty t=some (el,E)->fE (e l)=some (k,n)->fE (e c)=some (k',m)->0<E.size->E.zero.cells.size=E.size->E.zero.cells.toList.all one=true->
   qE E.isAgg (oG (rW ty 6 el) (E.zero.cells.toList.map .sc))=some d->
   dP P cx κ F w U nm σ o ρ (.bR (0<=n/\ n=m/\ n<=140737488355328/\ n*E.bytes<=140737488355328) [] (.own nm) [(nm,some (.tab el E.size (j3 (rY ty 6 el) E.zero.cells.toList d.cells) (List.replicate n.toNat d) nm none))])):
  dP P cx κ F w U nm σ o ρ (spec ty Γ σ e nm o):=by
 have hs:spec ty Γ σ e nm o=zn ty nm t (e l) (e c):=by unfold spec;simp only[C]
 rw[hs];unfold zn;split
 ·rename_i el E k n k' m q B hc;obtain⟨I,y⟩:=nD v q;have R:=jl B (A l);have Q:=jl hc (A c);split
  ·rename_i g;obtain⟨f,u,b⟩:=g;split
   ·rename_i d hd;split
    case h_2=>exact s el E k k' n m d q B hc f u b hd
    intro j;obtain⟨N,O,S,T⟩:=(show _/\ _/\ _/\ _ from j);subst O;obtain⟨_,i,J,K,L,M,_⟩:=y;have H:=run_make (P:=P) w t el i E.zero I J M k k' n n N (kR _) (by rw[L,Int.mul_comm];omega) (by omega);have r:=Jv (F:=F) (w:=w) (z:=E.zero.cells) (d:=d) (Ch hd (RC.nz _ _ _ (qM b))) n.toNat;rw[u]at r;have a:(List.replicate n.toNat d).length=n.toNat:=xW;have:=GU (cx:=cx) (κ:=κ) (σ:=σ) (nm:=nm) (e:=el) (eb:=el) h G r f (by rw[a];unfold maxLen;omega) (p:=(0<=n/\ n=n/\ n<=140737488355328/\ n*E.bytes<=140737488355328)) (rd:=[]);rw[a]at this;refine dW ?_ this;unfold execOp;simp only[C];refine iK _ ?_;rw[R,Q,H,K]
   ·intro j;exact j.elim
  ·intro j;exact j.elim
 ·intro j;exact j.elim

theorem zT(d:Bool)(len b:Nat){low a:Option Value}{l h:Int}(f:(low=none/\ l=0) \/∃k,low=some (.int k l))(g:(a=none/\ h=len) \/∃k,a=some (.int k h)/\ h<=b)
  (h0:0<=l) (j:l<=h):(Instr.sliceBounds d len b low a none).run P w=.ok (l.toNat,h.toNat,b) w:=by
 have m:(h.toNat:Int)=h:=by omega
 have c:0<=l/\ l<=(h.toNat:Int):=by omega
 rcases g with⟨rfl,rfl⟩|⟨k,rfl,i⟩
 ·simp only[gI]at c ⊢;rcases f with⟨rfl,rfl⟩|⟨k,rfl⟩
  ·simp[Instr.sliceBounds]
  ·simp[Instr.sliceBounds,Instr.sliceBound,asIntOf,c]
 ·have e:0<=h/\ h<=(b:Int):=by omega
  rcases f with⟨rfl,rfl⟩|⟨k',rfl⟩
  ·simp[Instr.sliceBounds,Instr.sliceBound,asIntOf,e]
  ·simp only[Instr.sliceBounds,Instr.sliceBound,asIntOf,Option.isSome_none,bW,if_false,Sem.run_bind,Sem.run_pure,Result.andThen_ok,c,e,and_self,if_true]

theorem CX{ρ:Operand->Value}{e:Operand->AV}(a:∀x,RV κ F w (e x) (ρ x)){lo:Option Operand}{l:Int}(h:pW (lo.map e)=some l):(lo.map ρ=none/\ l=0) \/∃k,lo.map ρ=some (.int k l):=by
 cases lo with
 |none=>simp only[rA,pW,bU]at h;subst h;exact .inl ⟨rfl,rfl⟩
 |some x=>
  simp only[gW,pW]at h;split at h
  ·rename_i k n b;simp only[bU]at h;subst h;exact .inr ⟨k,by simp[jl b (a x)]⟩
  ·cases h

theorem zQ{o:Oper}{ρ:Operand->Value}{t:TypeId}{x:Operand}{lo hi:Option Operand}(a:o.op=.slice t x lo hi none){d:TypeDesc}(c:P.underlying t=some d)(hd:∀n e,d≠.array n e){v:Value}
  (b:(Instr.slice t (ρ x) (lo.map ρ) (hi.map ρ) none).run P w=.ok v w):(execOp ρ o).run P w=.ok (.value v) w:=by
 unfold execOp;simp only[a];refine iK _ ?_;simp only[Instr.sliceAt,Sem.run_bind,run_underlying c,Result.andThen_ok];cases d
 case array n e=>exact absurd rfl (hd n e)
 all_goals simpa using b

theorem Oh{l:List D}{es:Nat}{a:Option Addr}{c:Nat}(r:l.length<=c)(s:c<=maxLen)(k:a=none->c=0)(m:l=[] \/∃b e us,a=some ⟨b,e,none⟩/\ F b/\ us.length=l.length*es/\
   (∀j u,us[j]? =some u->w.cell? ⟨b,e+j,none⟩=some u)/\ RE F w es l us)(lo hi:Nat)(o:lo<=hi)(i:hi<=l.length):
  RD F w (.sl es ((l.take hi).drop lo)) (.slice (if c=lo then a else a.map (·.add (lo*es))) (hi-lo) (c-lo)):=by
 unfold RD;have g:((l.take hi).drop lo).length=hi-lo:=by rw[gY,eF];omega
 refine⟨_,_,by rw[g],by omega,by omega,?_,?_⟩
 ·intro p;by_cases hc:c=lo
  ·omega
  ·rw[if_neg hc]at p;have:a=none:=by cases a<;>simp_all
   have:=k this;omega
 ·by_cases n:hi=lo
  ·left;subst n;rw[Eb (by rw[eF];omega)]
  ·rcases m with rfl|⟨b,e,us,rfl,hF,q,d,h⟩
   ·simp at i;omega
   ·right;have hc:c≠lo:=by omega
    refine⟨b,e+lo*es,(us.take (hi*es)).drop (lo*es),by rw[if_neg hc];simp[Addr.add_lit],hF,?_,?_,(h.take hi).drop lo⟩
    ·exact((h.take hi).drop lo).length
    ·intro j u f;rw[iX]at f;rw[j5];refine d _ u ?_;rw[nI]at f;split at f
     ·exact f
     ·cases f

theorem Ot(h:dh cx κ F w U σ){o:Nat}{x:bH}(g:σ o=some x):kT cx κ F w U κ (fun b=>F b \/dw κ o x b) w (Un U nm) (upd σ o none):=by
 have c:∀n y,upd σ o none n=some y->n≠o/\ σ n=some y:=fun n y a=>by
  by_cases d:n=o
  ·subst d;rw[iP]at a;cases a
  ·rw[jq d]at a;exact⟨d,a⟩
 refine⟨fun _ _=>rfl,fun b hb=>.inl hb,Wx.refl _ _,fun _ f=>fF f,fun n y a=>?_,fun n y a=>?_,fun n y a b hb=>?_,fun n y p q a i e=>h.apart n y p q (c n y a).2 (c p q i).2 e,fun b hb=>?_,h.kB,h.gB,h.bs,h.inv.mono (fun b hb=>.inl hb) (fun _ _=>rfl),fun j l=>⟨fF (h.lt j l).1,(h.lt j l).2⟩⟩
 ·obtain⟨_,a⟩:=c n y a;have m:=h.nb n y a;exact iH.mono (U:=U) (fun _ _=>rfl) (fun b hb=>.inl hb) (fun _ _=>rfl) m.1 m.2 (fun _ _=>rfl) (h.ok n y a)
 ·obtain⟨_,a⟩:=c n y a;exact⟨fF (h.nb n y a).1,gG.mono (fun _ f=>fF f) (h.nb n y a).2⟩
 ·obtain⟨d,a⟩:=c n y a;have k:=h.free n y a b hb;refine⟨fun hF=>?_,k.2⟩;rcases hF with hF|hF
  ·exact k.1 hF
  ·exact h.apart n y o x a g d b hb hF
 ·rcases hb with hb|hb
  ·exact h.fG b hb
  ·exact⟨(h.free o x g b hb).2.2,kX h g hb⟩

theorem Qx:∀{cs:List AV}{ds:List D}{us:List Value},rZ cs=some ds->bQ κ F w cs us->ds.length=us.length/\ RE F w 1 ds us:=by
 intro cs
 induction cs with
 |nil=>
  intro ds us h a;simp only[rZ,bU]at h;subst h;unfold bQ at a;subst a;exact⟨rfl,by unfold RE;rfl⟩
 |cons c cs i=>
  intro ds us h a;unfold bQ at a;obtain⟨u,b,rfl,f,e,g⟩:=a;cases c with
  |dat d=>
   cases d with
   |sc v=>
    simp only[rZ]at h;obtain⟨r,a,rfl⟩:=kG.1 h;obtain⟨j,k⟩:=i a g;unfold RV at e;refine⟨by simp[j],?_⟩;unfold RE;exact⟨[u],b,rfl,rfl,⟨u,rfl,f,e⟩,k⟩
   |_=>simp[rZ]at h
  |_=>simp[rZ]at h

theorem RN(l:∀t x,ty t=some x->bS P t x)(h:dh cx κ F w U σ){o:Oper}{ρ:Operand->Value}{t:TypeId}{x:Operand}(z:o.op=.slice t x none none none){n:Nat}{el:TypeId}(A:P.underlying t=some (.array n el))
  {av:AV} (p:RV κ F w av (ρ x)):dP P cx κ F w U nm σ o ρ (wQ ty σ n el av):=by
 unfold wQ;split
 ·rename_i ob;split
  ·rename_i q cs g;split
   ·rename_i E ds hE i;split
    ·rename_i hc;obtain⟨r,s,G⟩:=hc;intro _;unfold RV at p;obtain⟨b,m,B⟩:=p;obtain⟨D,arr,d,c,a⟩:=(show∃b arr,(κ ob).v=.pointer (some ⟨b,0,none⟩)/\ w.heap[b]? =some (.cells arr _ (0,0))/\ bQ κ F w cs arr.toList from h.ok ob _ g);rw[m]at d;simp only[Value.pointer.injEq,bU,Addr.mk.injEq,and_true]at d;subst d;obtain⟨H,C⟩:=Qx i a;have f:dw κ ob (.box q cs) b:=.inl (by rw[m];rfl);refine dW (v:=.slice (some ⟨b,0,none⟩) n n) (w':=w) ?_ ⟨_,_,κ,_,⟨rfl,rfl⟩,Ot h g,?_,by unfold NB;trivial⟩
     ·unfold execOp;simp only[z];refine iK _ ?_;simp only[Instr.sliceAt,Instr.sureAddr,Instr.sliceBounds,B,Sem.run_bind,run_underlying A,Result.andThen_ok,jm (l _ _ hE),r];simp[Addr.add_lit]
     ·unfold RV RD;refine⟨some ⟨b,0,none⟩,n,by rw[s],by omega,?_,by simp,.inr ⟨b,0,arr.toList,rfl,.inr f,by omega,fun j u y=>?_,RE.mono (fun b hb=>.inl hb) (fun _ _=>rfl) C⟩⟩
      ·unfold maxLen;omega
      ·have k:arr[j]? =some u:=by rw[<-Eh];exact y
       simp[World.cell?,c,k]
    ·intro e;exact e.elim
   ·intro e;exact e.elim
  ·intro e;exact e.elim
 ·intro e;exact e.elim

theorem Rw(y:∀t x,ty t=some x->bS P t x)(h:dh cx κ F w U σ)(hf:¬U nm){o:Oper}{ρ:Operand->Value}{e:Operand->AV}(G:∀x,RV κ F w (e x) (ρ x)){t:TypeId}{x:Operand}{lo hi:Option Operand}(V:o.op=.slice t x lo hi none)
  (Z:∀el E ob g k j l u kk b,iY ty t=some (el,E)->e x=.row ob g k j->hi=some u->fE (e u)=some (kk,b)->pW (lo.map e)=some l->dP P cx κ F w U nm σ o ρ (qU σ E ob g k j l b)):
  dP P cx κ F w U nm σ o ρ (spec ty Γ σ e nm o):=by
 have hs:spec ty Γ σ e nm o=xD ty σ nm t (e x) (lo.map e) (hi.map e):=by unfold spec;simp only[V]
 rw[hs];unfold xD;split
 ·rename_i size bytes z l D S;have J:=(y _ _ D).1;have r:=CX G S;split
  ·rename_i s ac;have vx:=uQ ac (G x);have str:∀b:Int,((hi.map ρ=none/\ b=s.size) \/∃k,hi.map ρ=some (.int k b)/\ b<=s.size)->0<=l->l<=b->(execOp ρ o).run P w=.ok (.value (.string (s.extract l.toNat b.toNat))) w:=by
    intro b i h0 R;refine zQ V J (by simp) ?_;rw[vx];simp only[Instr.slice,Sem.run_bind,run_underlying J,Result.andThen_ok,Option.isSome_none,bW,if_false,zT false s.size s.size r i h0 R,Sem.run_pure]
   cases hi with
   |none=>
    simp only[rA];refine jr h rfl fun c=>?_;simpa using str s.size (.inl ⟨rfl,rfl⟩) c.1 c.2
   |some u=>
    simp only[gW];split
    ·rename_i k b q;refine jr h rfl fun c=>?_;exact str b (.inr ⟨k,by simp[jl q (G u)],c.2.2⟩) c.1 c.2.1
    ·intro c;exact c.elim
  ·intro c;exact c.elim
 ·rename_i n el size bytes z l D S;have J:=(y _ _ D).1;split
  ·rename_i aa i;have e1:lo=none:=by cases lo with
    |none=>rfl
    |some _=>simp at aa
   have e2:hi=none:=by cases hi with
    |none=>rfl
    |some _=>simp at i
   subst e1;subst e2;exact RN y h V J (G x)
  ·intro c;exact c.elim
 ·rename_i el size bytes z l D S;have J:=(y _ _ D).1;have r:=CX G S;split
  ·rename_i H E es xs A B;obtain⟨K,Q⟩:=nD y A;have u:=G x;rw[B]at u;unfold RV RD at u;obtain⟨a,d,L,g1,g2,g3,g4⟩:=u;split
   ·rename_i I;have cut:∀b:Int,((hi.map ρ=none/\ b=xs.length) \/∃k,hi.map ρ=some (.int k b)/\ b<=d)->0<=l->l<=b->b<=xs.length->∀{p:Prop}{rd:List Nat},
      Out P o ρ w (SR cx κ F w U nm σ (.bR p rd (.dat (.sl es ((xs.take b.toNat).drop l.toNat))) [])):=by
     intro b i h0 R h2 p rd;have:=Oh g1 g2 g3 g4 l.toNat b.toNat (by omega) (by omega);refine dW (zQ V J (by simp) ?_) (fJ h (by unfold RV;exact this) (oO _));rw[L,I];simp only[Instr.slice,Sem.run_bind,run_underlying K,Result.andThen_ok,zT true xs.length d r i h0 R,jm Q,Sem.run_pure]
    cases hi with
    |none=>
     simp only[rA];intro c;obtain⟨N,O⟩:=(show _/\ _ from c);have:=cut xs.length (.inl ⟨rfl,rfl⟩) N O (by omega) (p:=(0<=l/\ l<=xs.length)) (rd:=[]);rw[iw (by omega)]at this;exact this
    |some u=>
     simp only[gW];split
     ·rename_i k b q;intro c;obtain⟨N,O,p3⟩:=(show _/\ _/\ _ from c);exact cut b (.inr ⟨k,by simp[jl q (G u)],by omega⟩) N O p3
     ·intro c;exact c.elim
   ·intro c;exact c.elim
  ·rename_i H E ob A B;obtain⟨K,Q⟩:=nD y A;have u:=G x;rw[B]at u;unfold RV at u;split
   ·rename_i e' es xs X;split
    ·rename_i I;obtain⟨us,C,ab,Y⟩:=(show iq F w e' es (κ ob).v xs from h.ok ob _ X);obtain⟨a,d,L⟩:=C.slice;have ae:xs.length<=d:=by
      rcases C.2 with⟨q1,q2⟩|⟨g,f,ad,af,q1,q3,q4,_⟩
      ·rw[q2];exact o9 _
      ·rw[L]at q1;simp only[Value.slice.injEq]at q1;rw[q1.2.2];exact q4
     have cut:∀b:Int,((hi.map ρ=none/\ b=xs.length) \/∃k,hi.map ρ=some (.int k b)/\ b<=d)->0<=l->l<=b->b<=xs.length->∀{p:Prop}{rd:List Nat},
       Out P o ρ w (SR cx κ F w U nm σ (.bR p rd (.own nm) [(ob,none),(nm,some (.arr e' es ((xs.take b.toNat).drop l.toNat)))])):=by
      intro b i h0 R h2 p rd;obtain⟨k1,k2⟩:=C.cut L (l:=l.toNat) (m:=b.toNat) (by omega) (by omega);have T:((xs.take b.toNat).drop l.toNat).length=b.toNat-l.toNat:=by rw[gY,eF];omega
      refine dW (v:=.slice (if d=l.toNat then a else a.map (·.add (l.toNat*es))) (b.toNat-l.toNat) (d-l.toNat)) (w':=w) (zQ V J (by simp) ?_) ?_
      ·rw[u.1,L,I];simp only[Instr.slice,Sem.run_bind,run_underlying K,Result.andThen_ok,zT true xs.length d r i h0 R,jm Q,Sem.run_pure]
      ·refine⟨.own nm,_,(fun n=>if n=nm then kv (.slice (if d=l.toNat then a else a.map (·.add (l.toNat*es))) (b.toNat-l.toNat) (d-l.toNat))else κ n),F,⟨rfl,rfl⟩,?_,?_,jA _ fI⟩
       ·refine xE h hf (v:=κ ob) (oo:=some ob) (fun o' W=>by simp at W;subst W;exact⟨⟨_,X⟩,rfl⟩) (by simp) ⟨rfl,rfl,rfl,dQ _,fun _ _ _=>rfl⟩ ⟨_,_,_,L⟩ ?_ (us:=(us.take (b.toNat*es)).drop (l.toNat*es)) ?_ ((ab.take b.toNat).drop l.toNat) Y
        ·left;rw[<-qW _ ⟨_,_,_,rfl⟩,<-qW _ ⟨_,_,_,L⟩];exact k2
        ·rw[T];exact k1
       ·unfold RV;exact⟨by simp,rfl⟩
     cases hi with
     |none=>
      simp only[rA];intro c;obtain⟨N,O⟩:=(show _/\ _ from c);have:=cut xs.length (.inl ⟨rfl,rfl⟩) N O (by omega) (p:=(0<=l/\ l<=xs.length)) (rd:=[ob]);rw[iw (by omega)]at this;exact this
     |some M=>
      simp only[gW];split
      ·rename_i k b q;intro c;obtain⟨N,O,p3⟩:=(show _/\ _/\ _ from c);exact cut b (.inr ⟨k,by simp[jl q (G M)],by omega⟩) N O p3
      ·intro c;exact c.elim
    ·intro c;exact c.elim
   ·intro c;exact c.elim
  ·rename_i H E ob g k j A B;cases hi with
   |none=>intro c;exact c.elim
   |some M=>
    simp only[gW];split
    ·rename_i kk b q;exact Z H E ob g k j l M kk b A B rfl q S
    ·intro c;exact c.elim
  ·intro c;exact c.elim
 ·intro c;exact c.elim

theorem RQ(h:dh cx κ F w U σ){o:Oper}{ρ:Operand->Value}{e:Operand->AV}(n:∀x,RV κ F w (e x) (ρ x))(p:∀x,NB U (e x)){x:Operand}{i:Nat}(m:o.op=.extract x i):
  dP P cx κ F w U nm σ o ρ (spec ty Γ σ e nm o):=by
 unfold spec;simp only[m];have k:=n x;have b:=p x;split
 ·rename_i l g;rw[g]at k b;unfold RV at k;unfold NB at b;obtain⟨cs,q,c⟩:=k;split
  ·rename_i v hi;intro _;have:∀{l:List AV}{cs:List Value}(i:Nat)(v:AV),dz κ F w l cs->l[i]? =some v->∃u,cs[i]? =some u/\ RV κ F w v u:=by
    intro l
    induction l with
    |nil=>intro cs i v _ hi;simp at hi
    |cons a l r=>
     intro cs i v c hi;unfold dz at c;obtain⟨u,us,rfl,d,f⟩:=c;cases i with
     |zero=>simp at hi;subst hi;exact⟨u,by simp,d⟩
     |succ i=>simpa using r i v f (by simpa using hi)
   obtain⟨u,d,f⟩:=this i v c hi;refine dW (v:=u) (w':=w) ?_ (fJ h f (bN.at i v b hi));unfold execOp;simp only[m];refine iK _ ?_;simp[Instr.extract,q,d]
  ·intro j;exact j.elim
 ·intro j;exact j.elim

theorem GI{x:AV}{l:List AV}{v:Value}(b:vR x=some l)(a:RV κ F w x v)(d:NB U x):∃cs:List Value,v=.agg cs.toArray/\ bQ κ F w l cs/\ bN U l:=by
 unfold vR at b;split at b
 ·cases b;unfold RV at a;unfold NB at d;obtain⟨cs,c,e⟩:=a;exact⟨cs,c,e,d⟩
 ·rename_i l0;cases b;have f:=qR (x:=.dat (.agg l0)) rfl a d;unfold RV RD at a;obtain⟨cs,c,e⟩:=a;subst c;exact⟨cs,rfl,by simpa[Value.cells]using f.1,f.2⟩
 ·cases b
theorem Jw(l:List Value)(i n:Nat):l.toArray.extract i (i+n)=((l.drop i).take n).toArray:=by
 simp[List.take_drop]
theorem RA(d:∀t x,ty t=some x->bS P t x)(h:dh cx κ F w U σ){o:Oper}{ρ:Operand->Value}{e:Operand->AV}(B:∀x,RV κ F w (e x) (ρ x))(E:∀x,NB U (e x)){s:TypeId}{x:Operand}{f:Nat}(k:o.op=.field s x f):
  dP P cx κ F w U nm σ o ρ (spec ty Γ σ e nm o):=by
 have hs:spec ty Γ σ e nm o=wT ty s (e x) f:=by unfold spec;simp only[k]
 rw[hs];unfold wT;split
 ·rename_i size G bytes zero m;have r:=(d _ _ m).1;split
  ·rename_i g c;split
   ·rename_i T l hT C;obtain⟨cs,n,p,q⟩:=GI C (B x) (E x);have b:=d _ _ hT;split
    ·rename_i i;split
     ·rename_i D;intro _;refine dW (v:=.agg ((cs.drop g.offset).take T.size).toArray) (w':=w) ?_ (fJ h (uY ((p.drop g.offset).take T.size)) (ny ((bN.drop g.offset q).take T.size)));unfold execOp;simp only[k];refine iK _ ?_;simp only[Instr.field,Sem.run_bind,run_underlying r,Result.andThen_ok,c,n,asAgg,Sem.run_pure,part,nC b,i,if_true,jm b,Jw]
     ·intro a;exact a.elim
    ·rename_i i;split
     ·rename_i v y;intro _;obtain⟨u,z,H,A⟩:=bQ.at g.offset v p y;refine dW (v:=u) (w':=w) ?_ (fJ h A (bN.at _ v q y));unfold execOp;simp only[k];refine iK _ ?_;have j:T.isAgg=false:=by simpa using i
      simp only[Instr.field,Sem.run_bind,run_underlying r,Result.andThen_ok,c,n,asAgg,Sem.run_pure,part,nC b,j,bW,if_false,uh,z]
     ·intro a;exact a.elim
   ·intro a;exact a.elim
  ·intro a;exact a.elim
 ·intro a;exact a.elim

theorem Rz(c:∀t x,ty t=some x->bS P t x)(h:dh cx κ F w U σ){o:Oper}{ρ:Operand->Value}{e:Operand->AV}(s:∀x,RV κ F w (e x) (ρ x))(I:∀x,NB U (e x)){t:TypeId}{x i:Operand}(y:o.op=.index t x i):
  dP P cx κ F w U nm σ o ρ (yM ty t (e x) (e i)):=by
 unfold yM;split
 ·rename_i len el size bytes zero _ k n g hi;have z:=(c _ _ g).1;have B:=jl hi (s i);split
  ·rename_i E l hE G;obtain⟨cs,p,q,r⟩:=GI G (s x) (I x);have b:=c _ _ hE;split
   ·rename_i d;split
    ·rename_i H;intro a;obtain⟨j,m⟩:=(show _/\ _ from a);have hc:0<=n/\ n<(len:Int):=⟨j,m⟩;refine dW (v:=.agg ((cs.drop (n.toNat*E.size)).take E.size).toArray) (w':=w) ?_ (fJ h (uY ((q.drop _).take E.size)) (ny ((bN.drop _ r).take E.size)));unfold execOp;simp only[y];refine iK _ ?_;simp only[Instr.index,B,asIntOf,Sem.run_bind,run_underlying z,Result.andThen_ok,p,Sem.run_pure,part,hc,and_self,nC b,d,if_true,jm b,Jw]
    ·intro a;exact a.elim
   ·rename_i d;split
    ·rename_i v A;intro a;obtain⟨j,m⟩:=(show _/\ _ from a);have hc:0<=n/\ n<(len:Int):=⟨j,m⟩;obtain⟨u,C,J,D⟩:=bQ.at _ v q A;refine dW (v:=u) (w':=w) ?_ (fJ h D (bN.at _ v r A));unfold execOp;simp only[y];refine iK _ ?_;have f:E.isAgg=false:=by simpa using d
     simp only[Instr.index,B,asIntOf,Sem.run_bind,run_underlying z,Result.andThen_ok,p,Sem.run_pure,part,hc,and_self,if_true,nC b,f,bW,if_false,jm b,uh,C]
    ·intro a;exact a.elim
  ·intro a;exact a.elim
 ·intro a;exact a.elim
theorem SE(a:∀t x,ty t=some x->bS P t x)(h:dh cx κ F w U σ){o:Oper}{ρ:Operand->Value}{e:Operand->AV}(b:∀x,RV κ F w (e x) (ρ x))(g:∀x,NB U (e x)){t:TypeId}{x i:Operand}(c:o.op=.index t x i):
  dP P cx κ F w U nm σ o ρ (spec ty Γ σ e nm o):=by
 unfold spec;simp only[c];split
 ·rename_i size bytes z s k n f d hi;have l:=(a _ _ f).1;have q:=uQ d (b x);have p:=jl hi (b i);refine jr h rfl fun j=>?_;obtain⟨m,r⟩:=(show _/\ _ from j);unfold execOp;simp only[c];refine iK _ ?_;have hlt:n.toNat<s.size:=by omega
  have hb:s[n.toNat]? =some (s.data.toList.getD n.toNat 0):=by
   rw[getElem?_pos s n.toNat hlt];congr 1;have:s.data.toList.getD n.toNat 0=s.data[n.toNat]'hlt:=by
    rw[dD,fO (by simpa using hlt)];simp
   rw[this];rfl
  simp only[Instr.index,q,p,asIntOf,Sem.run_bind,Sem.run_pure,Result.andThen_ok,run_underlying l,m,if_true,hb]
 ·exact Rz a h b g c

theorem QD(h:dh cx κ F w U σ){o:Oper}{ρ:Operand->Value}{e:Operand->AV}(c:∀x,RV κ F w (e x) (ρ x)){t:TypeId}{x:Operand}(a:o.op=.unOp .not t x):
  dP P cx κ F w U nm σ o ρ (spec ty Γ σ e nm o):=by
 unfold spec;simp only[a];split
 ·rename_i b hb;have f:=zm hb (c x);refine kZ h ?_;unfold execOp;simp only[a];refine iK _ ?_;simp[f,Op.unary]
 ·intro d;exact d.elim

theorem jpg(h:dh cx κ F w U σ){o:Oper}{ρ:Operand->Value}{e:Operand->AV}(b:∀x,RV κ F w (e x) (ρ x)){t:TypeId}{x:Operand}(a:o.op=.unOp .neg t x):
  dP P cx κ F w U nm σ o ρ (spec ty Γ σ e nm o):=by
 unfold spec;simp only[a];split
 ·rename_i k n hb;have d:=jl hb (b x);refine zW h ?_;unfold execOp;simp only[a];refine iK _ ?_;simp[d,Op.unary,Op.intArith]
 ·intro c;exact c.elim

theorem Gi{F:Nat->Prop}{w:World}:∀{l:List D}{us:List Value},(∀d∈l,∃b:UInt8,d=.sc (.int .u8 b.toNat))->RE F w 1 l us->us=l.map fun d=>Value.int .u8 (vO d).toNat
 |[],us,_,h=>by unfold RE at h;simpa using h
 |d::l,us,hd,h=>by
  obtain⟨u,i,rfl,j,hc,f⟩:=h.cons;obtain⟨b,rfl⟩:=hd d (dU ..);have g:=Gi (fun d c=>hd d (dZ _ c)) f;unfold D.cells RC at hc;obtain⟨y,ys,rfl,_,e,a⟩:=hc;unfold RC at a;subst a;unfold RD at e;rw[e.1,g];simp[vO]
theorem Gl:∀(l:List UInt8),RE F w 1 (l.map fun b=>.sc (.int .u8 b.toNat)) (l.map fun b=>Value.int .u8 b.toNat)
 |[]=>by unfold RE;rfl
 |x::a=>by
  rw[dX,dX];unfold RE;refine⟨[Value.int .u8 x.toNat],a.map fun b=>Value.int .u8 b.toNat,rfl,rfl,?_,Gl a⟩;show∃y,[Value.int .u8 x.toNat]=[y]/\ one y=true/\ RD F w (.sc (.int .u8 x.toNat)) y;refine⟨_,rfl,rfl,?_⟩;unfold RD;exact⟨rfl,rfl⟩
theorem QW(f:∀t x,ty t=some x->bS P t x)(h:dh cx κ F w U σ)(C:¬U nm){o:Oper}{ρ:Operand->Value}{e:Operand->AV}(N:∀x,RV κ F w (e x) (ρ x)){s d:TypeId}{x:Operand}(u:o.op=.convert s d x):
  dP P cx κ F w U nm σ o ρ (uW ty σ nm s d (e x)):=by
 unfold uW;split
 ·rename_i el ss Z sz sq ds W Y X l rd hs hd J;split
  ·rename_i m;have y:=(f _ _ hs).1;have z:=(f _ _ hd).1;have A:=(f _ _ m).1;intro g;have g:∀d∈l,∃b:UInt8,d=.sc (.int .u8 b.toNat):=g;obtain⟨a,c,us,M,B,K,I,i⟩:=Dh h J (N x);have L:=Gi g I;refine dW (v:=.string (BN l)) (w':=w) ?_ (fJ h (by unfold RV RD;exact⟨rfl,rfl⟩) (by unfold NB;trivial));unfold execOp;simp only[u];refine iK _ ?_;rw[M,run_convert_bytes_string w s d el a l.length c y A z];cases a with
   |none=>
    have R:l=[]:=kK.1 (B rfl).1;subst R;simp only[Conv.bytesToString,Sem.run_pure];rfl
   |some q=>
    have G:(loadCells q l.length).run P w=.ok ((l.map fun d=>((vO d).toNat:Int)).map (Value.int .u8)).toArray w:=by
     have:=run_loadCells_list (P:=P) w q us (i q rfl);rw[K,oz]at this;rw[this,L,uf];rfl
    rw[run_bytesToString w q l.length c _ G,List.foldl_map];have C:∀(l:List D)(s:ByteArray),l.foldl (fun r d=>r.push (UInt8.ofNat ((vO d).toNat:Int).toNat)) s=⟨s.data++(l.map vO).toArray⟩:=by
     intro l
     induction l with
     |nil=>intro s;simp
     |cons d l V=>
      intro s;rw[List.foldl_cons,V];simp[ByteArray.push]
    rw[C];simp[BN,ByteArray.empty,ByteArray.emptyWithCapacity]
    try rfl
  ·intro g;exact g.elim
 ·rename_i el _ _ _ _ hs hd;split
  ·rename_i str _ _ _ _ T m;have y:=(f _ _ hs).1;have z:=(f _ _ hd).1;have A:=(f _ _ m).1;intro g;have g:str.size<=4294967296:=g;have M:=uQ T (N x);have E:=grownCap_ge w str.size 0 el;have H:=grownCap_le_maxLen w str.size 0 el (by unfold maxLen;omega);have S:(bytesRow str (grownCap w str.size 0 el)).size=grownCap w str.size 0 el:=by
    unfold bytesRow;simp only[Array.size_append,Array.size_map,Array.size_replicate];have:str.data.size=str.size:=rfl;omega
   have j:str.data.toList.length=str.size:=by rw[iF];rfl
   have n:(str.data.toList.map fun b=>(D.sc (.int .u8 b.toNat))).length=str.size:=by rw[iy];exact j
   have p:Own (w.drew.alloc (.cells (bytesRow str (grownCap w str.size 0 el)) el ((bytesRow str (grownCap w str.size 0 el)).size,(bytesRow str (grownCap w str.size 0 el)).size+1))) (el+4294967296) 1 (.slice (some ⟨w.heap.size,0,none⟩) str.size (grownCap w str.size 0 el)) str.size (str.data.toList.map fun b=>Value.int .u8 b.toNat):=by
    refine⟨by rw[iy,oz];exact j,.inr ⟨w.heap.size,0,_,_,rfl,⟨_,_,heap_alloc_new w.drew _,.inr ⟨by omega,dQ _⟩⟩,E,H,by omega,?_⟩⟩;unfold bytesRow;rw[uj,Array.toList_append,oz,Array.toList_map];exact List.take_left' (by rw[iy];exact j)
   have O:=xE (cx:=cx) (κ:=κ) (σ:=σ) (nm:=nm) h C (v:=.slice none 0 0) (oo:=none) (by intro o u;cases u) (fun _=>rfl)
    (w':=w.drew.alloc (.cells (bytesRow str (grownCap w str.size 0 el)) el ((bytesRow str (grownCap w str.size 0 el)).size,(bytesRow str (grownCap w str.size 0 el)).size+1)))
    ⟨rfl,rfl,rfl,by simp,fun k Q _=>Go.RowKit.Below.heap_alloc w.drew _ k Q⟩ ⟨_,_,_,rfl⟩ (.inr rfl) (by rw[n];exact p) (Gl str.data.toList) (by omega)
   refine dW (v:=.slice (some ⟨w.heap.size,0,none⟩) str.size (grownCap w str.size 0 el)) ?_ (jku O (by unfold RV;exact⟨by simp,rfl⟩) (jA _ fI));unfold execOp;simp only[u];refine iK _ ?_;rw[M,run_bytes_of_string w s d el str y z A]
  ·intro g;exact g.elim
 ·intro g;exact g.elim

theorem RP(a:∀t x,ty t=some x->bS P t x)(h:dh cx κ F w U σ)(i:¬U nm){o:Oper}{ρ:Operand->Value}{e:Operand->AV}(c:∀x,RV κ F w (e x) (ρ x)){s d:TypeId}{x:Operand}(b:o.op=.convert s d x):
  dP P cx κ F w U nm σ o ρ (spec ty Γ σ e nm o):=by
 unfold spec;simp only[b];split
 ·rename_i hs hd j;have f:=(a _ _ hs).1;have g:=(a _ _ hd).1;have k:=jl j (c x);refine jr h rfl fun _=>?_;unfold execOp;simp only[b];refine iK _ ?_;simp only[convert,Sem.run_bind,run_underlying f,run_underlying g,Result.andThen_ok,k,Conv.intToInt,Sem.run_pure]
 ·exact QW a h i c b

theorem Sj(h:dh cx κ F w U σ){o:Oper}{ρ:Operand->Value}{e:Operand->AV}(y:∀x,RV κ F w (e x) (ρ x))(z:∀x,NB U (e x)){x:Operand}(u:o.op=.nilCheck x):
  dP P cx κ F w U nm σ o ρ (spec ty Γ σ e nm o):=by
 unfold spec;simp only[u];have q:=y x;have m:=z x;have r:∀a,ρ x=.pointer (some a)->(execOp ρ o).run P w=.ok (.value (ρ x)) w:=by
  intro a v;unfold execOp;simp[u,v]
 split
 ·rename_i ob i p;rw[p]at q m;intro _;have d:=q;unfold RV at d;obtain⟨b,_,s⟩:=d;exact dW (r _ s) (fJ h q m)
 ·rename_i ob es k j p;rw[p]at q m;intro _;have d:=q;unfold RV at d;obtain⟨b,f,n,t,_,s⟩:=d;exact dW (r _ s) (fJ h q m)
 ·rename_i ob g k j es i c p;rw[p]at q m;intro _;have d:=q;unfold RV at d;obtain⟨b,f,n,t,_,s⟩:=d;exact dW (r _ s) (fJ h q m)
 ·rename_i l p;rw[p]at q m;intro _;have d:=q;unfold RV at d;obtain⟨b,B,us,s,_⟩:=d;exact dW (r _ s) (fJ h q m)
 ·intro A;exact A.elim

theorem QB(h:dh cx κ F w U σ){o:Oper}{ρ:Operand->Value}{e:Operand->AV}(c:∀x,RV κ F w (e x) (ρ x)){x y:Operand}{i:Array TypeId}(d:o.op=.call {callee:=.builtin .max,args:= #[x,y],argTypes:=i}){k k':IntKind}{a b:Int}(f:fE (e x)=some (k,a))(g:fE (e y)=some (k',b)):
  dP P cx κ F w U nm σ o ρ (.bR True [] (.dat (.sc (.int k (if b>a then b else a)))) []):=by
 have j:=jl f (c x);have l:=jl g (c y);refine jr h rfl fun _=>?_;unfold execOp;simp only[d,resolve,invoke,builtin,Sem.run_bind,Sem.run_pure,Result.andThen_ok,rG,dX,jv,j,l,Builtin.max_,List.foldlM_cons,List.foldlM_nil,Builtin.max2]

theorem QZ(h:dh cx κ F w U σ){o:Oper}{ρ:Operand->Value}{e:Operand->AV}(d:∀x,RV κ F w (e x) (ρ x)){x y z:Operand}{m:Array TypeId}(f:o.op=.call {callee:=.builtin .max,args:= #[x,y,z],argTypes:=m}){k k' l:IntKind}{a b c:Int}(g:fE (e x)=some (k,a))(i:fE (e y)=some (k',b))(j:fE (e z)=some (l,c)):
  dP P cx κ F w U nm σ o ρ (.bR True [] (.dat (.sc (.int k (if c>(if b>a then b else a)then c else(if b>a then b else a))))) []):=by
 have n:=jl g (d x);have p:=jl i (d y);have q:=jl j (d z);refine jr h rfl fun _=>?_;unfold execOp;simp only[f,resolve,invoke,builtin,Sem.run_bind,Sem.run_pure,Result.andThen_ok,rG,dX,jv,n,p,q,Builtin.max_,List.foldlM_cons,List.foldlM_nil,Builtin.max2]

theorem QC(h:dh cx κ F w U σ){o:Oper}{ρ:Operand->Value}{e:Operand->AV}(c:∀x,RV κ F w (e x) (ρ x)){x y:Operand}{i:Array TypeId}(d:o.op=.call {callee:=.builtin .min,args:= #[x,y],argTypes:=i}){k k':IntKind}{a b:Int}(f:fE (e x)=some (k,a))(g:fE (e y)=some (k',b)):
  dP P cx κ F w U nm σ o ρ (.bR True [] (.dat (.sc (.int k (if b<a then b else a)))) []):=by
 have j:=jl f (c x);have l:=jl g (c y);refine jr h rfl fun _=>?_;unfold execOp;simp only[d,resolve,invoke,builtin,Sem.run_bind,Sem.run_pure,Result.andThen_ok,rG,dX,jv,j,l,Builtin.min_,List.foldlM_cons,List.foldlM_nil,Builtin.min2]

end
end
section
section
variable{P:Program}{cx:Cx}{κ:dx}{F:Nat->Prop}{w:World}{U:Nat->Prop}{nm:Nat}{σ:bJ}{ty:TypeId->Option bD}{Γ:Nat->Option dJ}

theorem Ji(a:∀t x,ty t=some x->bS P t x){t:TypeId}{E:bD}(h:wN ty t=some E):
  ∃k i el,P.underlying t=some (.map k el)/\ P.underlying k=some (.array 2 i)/\ P.underlying i=some (.int .i64)/\ (∀w:World,(sizeOf i).run P w=.ok 1 w)/\ bS P el E:=by
 unfold wN at h;split at h
 ·rename_i k el _ _ _ _ c;split at h
  ·rename_i i _ _ _ _ d;split at h
   ·rename_i _ _ _ e;have b:=a _ _ e;exact⟨k,i,el,(a _ _ c).1,(a _ _ d).1,b.1,fun w=>jm b,a _ _ h⟩
   ·cases h
  ·cases h
 ·cases h

abbrev mI(k:Int×Int):Value:=.agg #[.int .i64 k.1,.int .i64 k.2]
theorem Ic{x:AV}{k:Int×Int}{v:Value}(h:yI x=some k)(c:RV κ F w x v):v=mI k:=by
 unfold yI at h;split at h
 ·cases h;unfold RV RD at c;obtain⟨cs,rfl,hc⟩:=c;unfold RC at hc;obtain⟨u,us,rfl,_,a,hc⟩:=hc;unfold RC at hc;obtain⟨e,d,rfl,_,b,hc⟩:=hc;unfold RC at hc;subst hc;unfold RD at a b;rw[a.1,b.1]
 ·cases h

theorem IZ{i:TypeId}(hi:P.underlying i=some (.int .i64))(a b:Int)(j:Nat)(v:Value)(c:(#[Value.int .i64 a,.int .i64 b])[j]? =some v):(part i #[.int .i64 a,.int .i64 b] j).run P w=.ok v w:=by
 simp[Go.part,isAgg,run_underlying hi,c]
theorem Jz{k i:TypeId}(empty:Bool)(c:P.underlying k=some (.array 2 i))(hi:P.underlying i=some (.int .i64))(hs:(sizeOf i).run P w=.ok 1 w)(q:Int×Int):
  (Instr.checkKey empty 10000 k (mI q)).run P w=.ok () w:=by
 have a:∀(n:Nat)(v:Int),(Instr.checkKey empty (n+1) i (.int .i64 v)).run P w=.ok () w:=fun n v=>by
  simp[Instr.checkKey,run_underlying hi]
 have p0:=IZ (P:=P) (w:=w) hi q.1 q.2 0 _ rfl;have d:=IZ (P:=P) (w:=w) hi q.1 q.2 1 _ rfl;obtain⟨m,b⟩:∃m:Nat,m=9998+1:=⟨_,rfl⟩;replace a:∀v:Int,(Instr.checkKey empty m i (.int .i64 v)).run P w=.ok () w:=fun v=>by rw[b];exact a 9998 v
 rw[show(10000:Nat)=m+1 by omega];clear b;simp only[Instr.checkKey,Sem.run_bind,run_underlying c,Result.andThen_ok,Std.Legacy.Range.forIn_eq_forIn_range',Std.Legacy.Range.size,Nat.sub_zero,DY,Nat.div_one];simp[List.range',hs,p0,d,a]

theorem Oz{k i:TypeId}(c:P.underlying k=some (.array 2 i))(hi:P.underlying i=some (.int .i64))(hs:(sizeOf i).run P w=.ok 1 w)(q r:Int×Int):
  (Op.equal k (mI q) (mI r)).run P w=.ok (decide (r=q)) w:=by
 have a:∀q:Int×Int,RC (fun _=>False) w [.sc (.int .i64 q.1),.sc (.int .i64 q.2)] [.int .i64 q.1,.int .i64 q.2]:=fun q=>qM (l:=[.int .i64 q.1,.int .i64 q.2]) rfl;have:=JG (P:=P) (w:=w) c hi hs (a q) (a r) rfl 9998 (b:=q.1==r.1&&(q.2==r.2&&true)) (by simp[ru]);have e:(q.1==r.1&&(q.2==r.2&&true))=decide (r=q):=by
  rw[Bool.eq_iff_iff];simp only[Bool.and_true,fP,beq_iff_eq,decide_eq_true_eq,Prod.ext_iff];exact⟨fun h=>⟨h.1.symm,h.2.symm⟩,fun h=>⟨h.1.symm,h.2.symm⟩⟩
 rw[e]at this;exact this

def lH(k:Int×Int):List ((Int×Int)×D)->List MapEntry->Nat->Option (Nat×Value)
 |(k',_)::l,e::es,i=>if k'=k then some (i,e.val)else lH k l es (i+1)
 |_,_,_=>none
theorem JA{k i:TypeId}(a:P.underlying k=some (.array 2 i))(hi:P.underlying i=some (.int .i64))(hs:(sizeOf i).run P w=.ok 1 w)(q:Int×Int):
  ∀(l:List ((Int×Int)×D))(es:List MapEntry)(n:Nat),MR w l es->(Instr.findAsking k (mI q) es n).run P w=.ok (lH q l es n) w
 |[],es,n,h=>by
  have h:es=[]:=h;subst h;simp[Instr.findAsking,lH]
 |(k',d)::l,es,n,h=>by
  obtain⟨e,es',rfl,c,_,f⟩:=h;unfold Instr.findAsking lH;simp only[Sem.run_bind,c,Oz a hi hs q k',Result.andThen_ok];by_cases b:k'=q
  ·simp[b]
  ·simp[b,JA a hi hs q l es' (n+1) f]
theorem Jb{k i:TypeId}(a:P.underlying k=some (.array 2 i))(hi:P.underlying i=some (.int .i64))(hs:(sizeOf i).run P w=.ok 1 w)(q:Int×Int)
  (l:List ((Int×Int)×D)) (es:List MapEntry) (h:MR w l es):(Instr.findKey k (mI q) es).run P w=.ok (lH q l es 0) w:=by
 unfold Instr.findKey;simp only[Sem.run_bind,run_underlying a,Result.andThen_ok];cases es with
 |nil=>
  cases l with
  |nil=>simp[Instr.findNow,lH]
  |cons p l=>obtain⟨_,_,h,_⟩:=h;cases h
 |cons e es=>
  have:Instr.findNow (.array 2 i) (mI q) (e::es) 0=none:=by simp[Instr.findNow,Instr.sameNow]
  simp only[this];exact JA a hi hs q l _ 0 h

theorem Iu{z:D}{q:Int×Int}{g:Value}(f:∀F:Nat->Prop,RD F w z g):∀{l:List ((Int×Int)×D)}{es:List MapEntry}(n:Nat),MR w l es->
  (match lH q l es n with
  |some (_,v)=>RD (fun _=>False) w (getM z q l).1 v/\ (getM z q l).2=true
  |none=>getM z q l=(z,false))
 |[],es,n,h=>by
  have h:es=[]:=h;subst h;simp[lH,getM]
 |(k',d)::l,es,n,h=>by
  obtain⟨e,es',rfl,i,b,c⟩:=h;unfold lH getM;by_cases a:k'=q
  ·simp only[if_pos a];exact⟨b,trivial⟩
  ·simp only[if_neg a];exact Iu f (n+1) c

theorem Iw{q:Int×Int}{d:D}{v:Value}(hd:RD (fun _=>False) w d v){w':World}:∀{l:List ((Int×Int)×D)}{es:List MapEntry}(n:Nat),MR w l es->
  (match lH q l es n with
  |some (j,_)=>n<=j/\ (∃e,es[j-n]? =some e/\ e.key=mI q)/\ MR w' (pJ q d l) (es.modify (j-n) fun e=>{e with key:=mI q,val:=v})
  |none=>∀c,MR w' (pJ q d l) (es++[{key:=mI q,val:=v,born:=c}]))
 |[],es,n,h=>by
  have h:es=[]:=h;subst h;simp only[lH,pJ];exact fun c=>⟨_,_,rfl,rfl,RD.mono (fun _ h=>h) (fun _ h=>h.elim) hd,rfl⟩
 |(k',d')::l,es,n,h=>by
  obtain⟨e,es',rfl,b,i,k⟩:=h;unfold lH pJ;by_cases f:k'=q
  ·simp only[if_pos f];refine⟨dQ _,⟨e,by simp,by rw[b,f]⟩,?_⟩;rw[ow];exact⟨_,es',rfl,rfl,RD.mono (fun _ h=>h) (fun _ h=>h.elim) hd,k.mono⟩
  ·simp only[if_neg f];have a:=Iw (q:=q) hd (w':=w') (n+1) k;cases m:lH q l es' (n+1)with
   |none=>
    rw[m]at a;exact fun c=>⟨e,_,rfl,b,RD.mono (fun _ h=>h) (fun _ h=>h.elim) i,a c⟩
   |some p=>
    obtain⟨j,u⟩:=p;rw[m]at a;obtain⟨t,⟨e0,o,r⟩,s⟩:=a;have g:j-n=(j-(n+1))+1:=by omega
    refine⟨by omega,⟨e0,by rw[g];simpa using o,r⟩,?_⟩;rw[g];exact⟨e,_,rfl,b,RD.mono (fun _ h=>h) (fun _ h=>h.elim) i,s⟩

theorem OE{d:D}{v:Value}(a:JJ d=true)(h:RD F w d v):RD (fun _=>False) w d v:=by
 have b:∀{d:D}{v:Value},yc d=true->RD F w d v->RD (fun _=>False) w d v:=by
  intro d v hd h;cases d with
  |sc u=>unfold RD at h ⊢;exact h
  |_=>cases hd
 cases d with
 |sc u=>exact b rfl h
 |sl es l=>cases a
 |agg l=>
  unfold RD at h ⊢;obtain⟨cs,e,c⟩:=h;refine⟨cs,e,?_⟩;replace a:l.all yc=true:=a;clear e;revert a
  induction l generalizing cs with
  |nil=>intro _;unfold RC at c ⊢;exact c
  |cons x l f=>
   intro a;simp only[List.all_cons,fP]at a;unfold RC at c ⊢;obtain⟨u,us,rfl,g,i,j⟩:=c;exact⟨u,us,rfl,g,b a.1 i,f us j a.2⟩

theorem PX{v:Value}{z:D}(h:(nk v).oF=some z)(F:Nat->Prop):RD F w z v:=by
 cases v
 case agg cs=>
  simp only[nk]at h;split at h
  ·rename_i a;simp only[AV.oF,bU]at h;subst h;unfold RD;exact⟨cs.toList,rfl,qM a⟩
  ·cases h
 all_goals (simp only[nk,AV.oF]at h;first|(simp only[bU]at h;subst h;unfold RD;exact⟨rfl,rfl⟩)|cases h)
theorem Da{x:AV}{o:Nat}{t:TypeId}{l:List ((Int×Int)×D)}(h:sD σ x=some (o,t,l)):x=.own o/\ σ o=some (.mp t l):=by
 unfold sD at h;split at h
 ·split at h
  ·rename_i a;cases h;exact⟨rfl,a⟩
  ·cases h
 ·cases h

theorem RS(h:dh cx κ F w U σ)(c:¬U nm){o:Oper}{ρ:Operand->Value}{t:TypeId}(e:o.op=.makeMap t none):
  dP P cx κ F w U nm σ o ρ (xI ty nm t):=by
 unfold xI;split
 ·intro _;have d:(w.alloc (.map #[] 0)).heap[w.heap.size]? =some (.map #[] 0):=(MapKept.heap_alloc w _).1;refine dW (v:=.map (some w.heap.size)) (w':=w.alloc (.map #[] 0)) ?_ (jku (κ':=fun n=>if n=nm then kv (.map (some w.heap.size))else κ n) (Ii h c (x:=.mp t []) (v:=kv (.map (some w.heap.size))) ?_ ?_ trivial) ?_ (jA _ fI))
  ·unfold execOp;simp only[e];exact iK _ rfl
  ·intro κ' b a hb;exact zi (x:=.mp t []) (by intros;simp) (by intros;simp) rfl a hb
  ·intro κ' a _;show nP _ (κ' nm).v [];rw[a];exact⟨_, #[],0,rfl,d,rfl⟩
  ·unfold RV;exact⟨by simp,rfl⟩
 ·intro f;exact f.elim

theorem RB(B:∀t x,ty t=some x->bS P t x)(h:dh cx κ F w U σ){o:Oper}{ρ:Operand->Value}{e:Operand->AV}(D:∀x,RV κ F w (e x) (ρ x)){t:TypeId}{x i:Operand}(L:o.op=.lookup t x i true):
  dP P cx κ F w U nm σ o ρ (vH ty σ t (e x) (e i)):=by
 unfold vH;split
 ·rename_i E ob W l k K N hi;split
  ·rename_i z O;intro _;obtain⟨V,it,el,T,H,I,J,g⟩:=Ji B K;obtain⟨r,Q⟩:=Da N;have C:=D x;rw[r]at C;unfold RV at C;obtain⟨b,es,m,R,S,G⟩:=(show nP w (κ ob).v l from h.ok ob _ Q);have u:=Ic hi (D i);have f:=fun F=>PX (w:=w) O F;have a:=Iu (q:=k) f 0 G;have s:=Jb (P:=P) H I (J w) k l es.toList G;have n:=Jz (P:=P) (w:=w) es.isEmpty H I (J w) k;have d:∃v,(Instr.lookup t (ρ x) (ρ i) true).run P w=.ok (.tuple #[v,.bool (getM z k l).2]) w/\ RD F w (getM z k l).1 v:=by
    rw[C.1,R,u];unfold Instr.lookup;simp only[Sem.run_bind,run_underlying T,Result.andThen_ok,MapKept.run_getObj_map S,Sem.run_pure,n,s];cases c:lH k l es.toList 0 with
    |none=>
     rw[c]at a;simp only[]at a;refine⟨E.zero,?_,?_⟩
     ·simp only[Sem.run_bind,vB g,Result.andThen_ok,Sem.run_pure,a];simp
     ·rw[a];exact f F
    |some p=>
     obtain⟨j,v⟩:=p;rw[c]at a;simp only[]at a;refine⟨v,?_,RD.mono (fun _ h=>h.elim) (fun _ h=>h.elim) a.1⟩;simp only[a.2];simp
   obtain⟨v,M,A⟩:=d;refine dW (v:=.tuple #[v,.bool (getM z k l).2]) (w':=w) ?_ (fJ h ?_ ?_)
   ·unfold execOp;simp only[L];exact iK _ M
   ·unfold RV;refine⟨[v,.bool (getM z k l).2],rfl,?_⟩;unfold dz;refine⟨_,_,rfl,by unfold RV;exact A,?_⟩;unfold dz;refine⟨_,_,rfl,by unfold RV RD;exact⟨rfl,rfl⟩,?_⟩;unfold dz;rfl
   ·unfold NB bN;exact⟨by unfold NB;trivial,by unfold bN;exact⟨by unfold NB;trivial,by unfold bN;trivial⟩⟩
  ·intro y;exact y.elim
 ·intro y;exact y.elim

theorem RF(N:∀t x,ty t=some x->bS P t x)(h:dh cx κ F w U σ){o:Oper}{ρ:Operand->Value}{e:Operand->AV}(D:∀x,RV κ F w (e x) (ρ x)){t:TypeId}{x i v:Operand}(ho:o.op=.mapUpdate t x i v):
  dP P cx κ F w U nm σ o ρ (vI ty σ t (e x) (e i) (e v)):=by
 unfold vI;split
 ·rename_i E ob t' l k d Z hx hi hd;split
  ·rename_i I;intro _;obtain⟨kt,it,el,u1,T,V,W,S⟩:=Ji N Z;obtain⟨G,Q⟩:=Da hx;have O:=D x;rw[G]at O;unfold RV at O;obtain⟨b,es,c,y,z,R⟩:=(show nP w (κ ob).v l from h.ok ob _ Q);have J:=Ic hi (D i);have m:=D v;rw[hd]at m;unfold RV at m;have C:=OE I m;have H:=Jb (P:=P) T V (W w) k l es.toList R;have B:=Jz (P:=P) (w:=w) false T V (W w) k;have f:=fun w':World=>Iw (q:=k) C (w':=w') 0 R;have r:∀g,dw κ ob (.mp t' l) g↔g=b:=by
    intro g;constructor
    ·rintro(h1|h1)
     ·rw[y]at h1;simp[blk]at h1;exact h1.symm
     ·exact h1.elim
    ·rintro rfl;exact .inl (by rw[y];rfl)
   have K:b<w.heap.size:=tq z;have u:∃es' a,(Instr.mapUpdate t (ρ x) (ρ i) (ρ v)).run P w=.ok () {w with heap:=w.heap.setIfInBounds b (.map es' a)}/\ ∀w',MR w' (pJ k d l) es'.toList:=by
    rw[O.1,y,J];unfold Instr.mapUpdate;simp only[Sem.run_bind,run_underlying u1,Result.andThen_ok,MapKept.run_getObj_map z,B,H];cases s:lH k l es.toList 0 with
    |none=>
     simp only[s]at f;refine⟨_,_,by simp only[MapKept.run_setObj_map _ z];rfl,fun w'=>?_⟩;have:=f w' c;simpa using this
    |some p=>
     obtain⟨j,v0⟩:=p;simp only[s,Nat.sub_zero]at f;obtain⟨_,⟨e0,X,Y⟩,_⟩:=f w;have A:es[j]? =some e0:=by simpa using X
     have n:Instr.sameBits 10000 (mI k) (mI k)=true:=by
      simp[Instr.sameBits]
     refine⟨es.modify j fun e=>{e with key:=mI k,val:=ρ v},c,?_,fun w'=>?_⟩
     ·simp only[A,gW,rC,Y,Instr.keyThatStays,n,if_true,Sem.run_bind,Sem.run_pure,Result.andThen_ok,MapKept.run_setObj_map _ z]
     ·have:=(f w').2.2;simpa using this
   obtain⟨es',a,hr,L⟩:=u;refine xB (w':={w with heap:=w.heap.setIfInBounds b (.map es' a)}) ?_ ⟨_,_,κ,F,⟨rfl,rfl⟩,zP h Q rfl rfl rfl (by simp) ?_ ?_ ?_ trivial,by unfold RV;rfl,by unfold NB;trivial⟩
   ·unfold execOp;simp only[ho];exact Gu _ hr
   ·intro g hb' M;have:b≠g:=fun e=>M ((r g).2 e.symm);simp[this]
   ·intro g hb';rcases hb' with hb'|hb'
    ·exact .inl hb'
    ·exact hb'.elim
   ·show nP _ (κ ob).v _;exact⟨b,es',a,y,by simp[K],L _⟩
  ·intro f;exact f.elim
 ·intro f;exact f.elim
end
end
section

def sj(σ:bJ):List Nat->bJ
 |[]=>σ
 |n::r=>sj (upd σ n none) r
theorem CK{δ:eP}:∀{ns:List Nat}{σ:bJ},app (lU ns++δ) σ=app δ (sj σ ns)
 |[],σ=>rfl
 |n::r,σ=>by
  show app (lU r++δ) (upd σ n none)=_;rw[CK];rfl
theorem zK:∀{ns:List Nat}{σ:bJ}{o:Nat}{y:bH},sj σ ns o=some y->σ o=some y/\ o∉ns
 |[],σ,o,y,h=>⟨h,by simp⟩
 |n::r,σ,o,y,h=>by
  have c:sj (upd σ n none) r o=some y:=h;obtain⟨a,d⟩:=zK c;by_cases b:o=n
  ·subst b;rw[iP]at a;cases a
  ·rw[jq b]at a;exact⟨a,by simp[b,d]⟩

section
variable{P:Program}{cx:Cx}{κ:dx}{F:Nat->Prop}{w:World}{U:Nat->Prop}{nm:Nat}{σ:bJ}{ty:TypeId->Option bD}{Γ:Nat->Option dJ}

abbrev eO(κ:dx)(nm:Nat)(v:KV):dx:=fun n=>if n=nm then v else κ n

theorem y7(h:dh cx κ F w U σ)(hf:¬U nm)(rm:List Nat)(c:Nat)(z:c=nm \/U c){v:KV}{w':World}(Q:w'.os=w.os)(r:w'.tape=w.tape)(B:w'.output=w.output)(f:w.heap.size<=w'.heap.size)
  (a:∀b,b<w.heap.size->(∀o∈rm,∀x,σ o=some x->¬dw κ o x b)->w'.heap[b]? =w.heap[b]?) {x:bH}
  (D:∀b,dw (eO κ nm v) c x b->(∃o∈rm,∃y,σ o=some y/\ dw κ o y b) \/w.heap.size<=b)
  (O:iH (eO κ nm v) F w' c x) (hn:gG (Un U nm) x) {σ':bJ} (t:∀o y,σ' o=some y->(o=c/\ y=x) \/(o≠c/\ o∉rm/\ σ o=some y)):
  kT cx κ F w U (eO κ nm v) F w' (Un U nm) σ':=by
 have H:∀o,U o->eO κ nm v o=κ o:=Co (κ:=κ) hf v;have Z:∀b,¬(∀o∈rm,∀x,σ o=some x->¬dw κ o x b)->∃o∈rm,∃y,σ o=some y/\ dw κ o y b:=fun b hb=>by
  apply rQ;intro hc;exact hb fun o l x s d=>hc ⟨o,l,x,s,d⟩
 have C:∀b,(∃o∈rm,∃y,σ o=some y/\ dw κ o y b)->¬F b/\ ¬cx.K b/\ cx.G b:=fun b ⟨o,_,y,i,hb⟩=>h.free o y i b hb;have q:∀b,F b->w'.heap[b]? =w.heap[b]?:=fun b hb=>a b (h.fG b hb).2 fun o l x s d=>(h.free o x s b d).1 hb;have m:∀o y,o∉rm->σ o=some y->∀b,dw κ o y b->w'.heap[b]? =w.heap[b]?:=fun o y l i b hb=>a b (kX h i hb) fun o' N x s d=>h.apart o y o' x i s (fun e=>l (e▸N)) b hb d;have g:∀o y,σ' o=some y->∀b,dw (eO κ nm v) o y b->
   (o=c/\ y=x/\ ((∃o∈rm,∃y,σ o=some y/\ dw κ o y b) \/w.heap.size<=b)) \/(o≠c/\ o∉rm/\ σ o=some y/\ dw κ o y b/\ b<w.heap.size):=fun o y i b hb=>by
  rcases t o y i with⟨rfl,rfl⟩|⟨u,h2,k⟩
  ·exact .inl ⟨rfl,rfl,D b hb⟩
  ·have p:=h.nb o y k;have hb':=hb.pO H p.1 p.2;exact .inr ⟨u,h2,k,hb',kX h k hb'⟩
 refine⟨H,fun _ hb=>hb,⟨Q,r,B,f,fun b hb=>?_⟩,fun _ l=>fF l,?_,?_,?_,?_,fun b hb=>⟨(h.fG b hb).1,kH (h.fG b hb).2 f⟩,h.kB,h.gB,pz h.bs f,h.inv.mono (fun _ hb=>hb) q,fun j M=>⟨fF (h.lt j M).1,(congrArg KV.v (H j (h.lt j M).1)).trans (h.lt j M).2⟩⟩
 ·rcases hb with hb|hb
  ·exact q b hb
  ·exact a b (kH (h.kB b hb) h.bs) fun o l x s d=>(h.free o x s b d).2.1 hb
 ·intro o y i;rcases t o y i with⟨rfl,rfl⟩|⟨u,h2,k⟩
  ·exact O
  ·have p:=h.nb o y k;exact iH.mono H (fun _ hb=>hb) q p.1 p.2 (m o y h2 k) (h.ok o y k)
 ·intro o y i;rcases t o y i with⟨rfl,rfl⟩|⟨u,h2,k⟩
  ·refine⟨?_,hn⟩;rcases z with rfl|hd
   ·exact .inr ⟨dQ _,by omega⟩
   ·exact fF hd
  ·have p:=h.nb o y k;exact⟨fF p.1,gG.mono (fun _ l=>fF l) p.2⟩
 ·intro o y i b hb;rcases g o y i b hb with⟨_,_,hb'|hb'⟩|⟨_,_,n,hb',_⟩
  ·exact C b hb'
  ·exact⟨fun hF=>by have:=(h.fG _ hF).2;omega,fun hK=>by have:=h.kB _ hK;have:=h.bs;omega,h.gB _ (pz h.bs hb')⟩
  ·exact h.free o y n b hb'
 ·intro o y o' I i n A b hb hb';rcases g o y i b hb with⟨u,_,h2⟩|⟨u,h2,k,Y,h5⟩
  ·rcases g o' I n b hb' with⟨E,_,_⟩|⟨E,X,J,L,g5⟩
   ·exact A (u.trans E.symm)
   ·rcases h2 with⟨V,R,W,S,T⟩|h2
    ·exact h.apart V W o' I S J (fun e=>X (e▸R)) b T L
    ·omega
  ·rcases g o' I n b hb' with⟨E,_,g2'⟩|⟨E,X,J,L,g5⟩
   ·rcases g2' with⟨V,R,W,S,T⟩|g2'
    ·exact h.apart V W o y S k (fun e=>h2 (e▸R)) b T Y
    ·omega
   ·exact h.apart o y o' I k J A b Y L

inductive Sc where
 |row (o k j:Nat)
 |obj (n:Nat)
def jY(κ:dx)(σ:bJ):Sc->Nat->Prop
 | .row o k j,b=>∃e es mask l g hole,σ o=some (.tab e es mask l g hole)/\ fU mask l.length hole k j/\ blk ((κ g).r k j)=some b
 | .obj n,b=>∃x,σ n=some x/\ blk (κ n).v=some b
def Sc.o:Sc->Nat
 | .row o _ _=>o
 | .obj n=>n

theorem jY.blk{s:Sc}{b:Nat}(h:jY κ σ s b):∃x,σ s.o=some x/\ dw κ s.o x b:=by
 cases s with
 |row o k j=>
  obtain⟨e,es,mask,l,g,hole,a,c,d⟩:=h;exact⟨_,a,.inr ⟨k,j,c,d⟩⟩
 |obj n=>
  obtain⟨x,a,c⟩:=h;exact⟨x,a,.inl c⟩

theorem zx(h:dh cx κ F w U σ){s s':Sc}{b:Nat}(hs:jY κ σ s b)(p:jY κ σ s' b):s=s':=by
 obtain⟨x,G,hb⟩:=hs.blk;obtain⟨x',B,z⟩:=p.blk;have u:s.o=s'.o:=rQ fun A=>h.apart _ x _ x' G B A b hb z;cases s with
 |row o k j=>
  obtain⟨e,es,mask,l,g,hole,D,E,t⟩:=hs;have y:eB F w e es mask l (κ o).v (κ g).r hole:=h.ok o _ D;cases s' with
  |row o' k' j'=>
   have a:o=o':=u;subst a;obtain⟨e',es',f,l',C,d,i,q,c⟩:=p;rw[D]at i;cases i;by_cases m:(k,j)=(k',j')
   ·simp only[eY]at m;rw[m.1,m.2]
   ·exact absurd c (y.apart k j k' j' E q m b t)
  |obj n=>
   have a:o=n:=u;subst a;obtain⟨_,_,c⟩:=p;exact absurd c (y.outer k j E b t)
 |obj n=>
  cases s' with
  |row o' k' j'=>
   have a:n=o':=u;subst a;obtain⟨e',es',f,l',C,d,i,q,c⟩:=p;have y:eB F w e' es' f l' (κ n).v (κ C).r d:=h.ok n _ i;obtain⟨_,_,t⟩:=hs;exact absurd t (y.outer k' j' q b c)
  |obj H=>
   have a:n=H:=u;rw[a]

theorem yJ(h:dh cx κ F w U σ){s:Sc}{b:Nat}(hs:jY κ σ s b):b<w.heap.size:=by
 obtain⟨x,a,hb⟩:=hs.blk;exact kX h a hb

theorem eB.fresh(h:dh cx κ F w U σ){w':World}{e:TypeId}{es:Nat}{mask:List (Option TypeId)}{l:List D}{u:Value}{hole:Option (Nat×Nat)}{us:List Value}(p:0<es)(z:mask.length<=es)
  (hc:∀(k:Nat)(d:D),l[k]? =some d->d.cells.length=es) (f:Own w' e es u l.length us)
  (cell:∀(k:Nat)(d:D)(j:Nat)(c:D),l[k]? =some d->d.cells[j]? =some c->∃x,us[k*es+j]? =some x/\ one x=true/\ match dA mask j with
   |none=>RD F w' c x
   |some e'=>hole=some (k,j) \/∃es' rows,c=.sl es' rows/\ iq F w' e' es' x rows)
  (src:Nat->Nat->Option Sc) (a:∀k j,fU mask l.length hole k j->∀b,blk (us.getD (k*es+j) undef)=some b->∃s,src k j=some s/\ jY κ σ s b)
  (inj:∀k j k' j' s,fU mask l.length hole k j->fU mask l.length hole k' j'->src k j=some s->src k' j'=some s->(k,j)=(k',j'))
  (n:∀b,blk u=some b->w.heap.size<=b \/∃o,jY κ σ (.obj o) b/\ ∀k j,fU mask l.length hole k j->src k j≠some (.obj o)):
  eB F w' e es mask l u (fun k j=>us.getD (k*es+j) undef) hole:=by
 refine⟨p,z,hc,⟨us,f,f.1,fun k d j c E hd=>?_⟩,fun k j k' j' q r A b hb y=>?_,fun k j q b hb H=>?_⟩
 ·obtain⟨x,i,m,g⟩:=cell k d j c E hd;refine⟨x,i,m,?_⟩;cases B:dA mask j with
  |none=>rw[B]at g;exact g
  |some e'=>
   rw[B]at g;simp only[]at g ⊢;exact⟨by rw[dD,i];rfl,g⟩
 ·obtain⟨s,i,m⟩:=a k j q b hb;obtain⟨s',t,v⟩:=a k' j' r b y;have:=zx h m v;subst this;exact A (inj k j k' j' s q r i t)
 ·obtain⟨s,i,m⟩:=a k j q b hb;rcases n b H with G|⟨o,g,C⟩
  ·have:=yJ h m;omega
  ·have:=zx h m g;subst this;exact C k j q i

theorem Js:∀{cs:List D}{us:List Value},us.length=cs.length->(∀(j:Nat)(c:D),cs[j]? =some c->∃x,us[j]? =some x/\ one x=true/\ RD F w c x)->RC F w cs us
 |[],us,a,_=>by unfold RC;exact rM (by simpa using a)
 |c::cs,[],a,_=>by simp at a
 |c::cs,u::us,a,h=>by
  obtain⟨x,b,d,e⟩:=h 0 c (by simp);simp at b;subst b;unfold RC;exact⟨u,us,rfl,d,e,Js (by simpa using a) fun j c f=>by simpa using h (j+1) c (by simpa using f)⟩
theorem Jt{es:Nat}:∀{l:List D}{us:List Value},us.length=l.length*es->(∀(k:Nat)(d:D),l[k]? =some d->d.cells.length=es)->
  (∀(k:Nat)(d:D)(j:Nat)(c:D),l[k]? =some d->d.cells[j]? =some c->∃x,us[k*es+j]? =some x/\ one x=true/\ RD F w c x)->RE F w es l us
 |[],us,m,_,_=>by unfold RE;exact rM (by simpa using m)
 |d::l,us,m,hc,h=>by
  simp only[gZ,iD,nH]at m;have hd:=hc 0 d (by simp);have e:us=us.take es++us.drop es:=(l9 es us).symm;rw[e];refine RE.mk (by rw[eF];omega) (Js (by rw[eF];omega) fun j c b=>?_) (Jt (by rw[gY];omega) (fun k d i=>hc (k+1) d (by simpa using i)) fun k d j c i b=>?_)
  ·obtain⟨x,a,f⟩:=h 0 d j c (by simp) b;rw[o8,j4]at a;have g:j<es:=by rw[<-hd];exact(cK.1 b).1
   exact⟨x,by rw[kL g];exact a,f⟩
  ·obtain⟨x,a,f⟩:=h (k+1) d j c (by simpa using i) b;refine⟨x,?_,f⟩;rw[iX,<-a];congr 1;rw[iD,nH];omega

theorem zO{e:TypeId}{es:Nat}{u:Value}{l:List D}{us:List Value}{F':Nat->Prop}(hb:∀b,blk u=some b->F' b)(a:Own w e es u l.length us)(h:RE F' w es l us):RD F' w (.sl es l) u:=by
 unfold RD;rcases a.2 with⟨c,i⟩|⟨g,f,d,k,c,p,m,n,q,r⟩
 ·exact⟨none,0,by rw[c,i],by omega,by unfold maxLen;omega,fun _=>rfl,.inl (rM i)⟩
 ·refine⟨some ⟨g,f,none⟩,d,c,m,n,by simp,.inr ⟨g,f,us,rfl,hb g (by rw[c];rfl),a.1,fun j v o=>?_,h⟩⟩;exact a.cells c j v o

theorem eB.re{e:TypeId}{es:Nat}{mask:List (Option TypeId)}{l:List D}{u:Value}{r:Nat->Nat->Value}{F':Nat->Prop}(h:eB F w e es mask l u r none)(hF:∀b,F b->F' b)
  (t:∀k j,fU mask l.length none k j->∀b,blk (r k j)=some b->F' b):∃us,Own w e es u l.length us/\ RE F' w es l us:=by
 obtain⟨us,g,s,hc⟩:=h.mem;refine⟨us,g,Jt s h.cells fun k d j c o hd=>?_⟩;obtain⟨x,p,q,a⟩:=hc k d j c o hd;refine⟨x,p,q,?_⟩;cases n:dA mask j with
 |none=>rw[n]at a;exact RD.mono hF (fun _ _=>rfl) a
 |some e'=>
  rw[n]at a;simp only[]at a;rcases a with⟨v,a|⟨es',rows,m,y,f,i,_⟩⟩
  ·cases a
  ·subst m;subst v;exact zO (t k j ⟨(cK.1 o).1,by rw[n];rfl,by simp⟩) f (RE.mono hF (fun _ _=>rfl) i)

theorem yK(h:dh cx κ F w U σ){F':Nat->Prop}(hF:∀b,F b->F' b){o es:Nat}{x:bH}{l:List D}(n:σ o=some x)(hs:x.sl=some (es,l))(hb:∀b,dw κ o x b->F' b):RD F' w (.sl es l) (κ o).v:=by
 have f:=h.ok o x n;cases x with
 |box T l=>cases hs
 |gF T E l g=>cases hs
 |mp t l=>cases hs
 |arr e es' l'=>
  simp only[bH.sl,bU,eY]at hs;obtain⟨rfl,rfl⟩:=hs;obtain⟨us,c,d,_⟩:=f;exact zO (fun b a=>hb b (.inl a)) c (RE.mono hF (fun _ _=>rfl) d)
 |tab e es' mask l' g hole=>
  cases hole with
  |some p=>cases hs
  |none=>
   simp only[bH.sl,bU,eY]at hs;obtain⟨rfl,rfl⟩:=hs;have m:eB F w e es' mask l' (κ o).v (κ g).r none:=f;obtain⟨us,c,d⟩:=m.re hF fun k j i b a=>hb b (.inr ⟨k,j,i,a⟩);exact zO (fun b a=>hb b (.inl a)) c d
theorem uZ{o es:Nat}{l:List D}(h:mP σ o=some (es,l)):∃x,σ o=some x/\ x.sl=some (es,l):=by
 unfold mP at h;split at h
 ·rename_i x a;exact⟨x,a,h⟩
 ·cases h

end
end
section
section
variable{P:Program}{cx:Cx}{κ:dx}{F:Nat->Prop}{w:World}{U:Nat->Prop}{nm:Nat}{σ:bJ}{ty:TypeId->Option bD}{Γ:Nat->Option dJ}

theorem Dx:∀{cs:List AV}{us:List Value},us.length=cs.length->(∀(j:Nat)(c:AV),cs[j]? =some c->∃x,us[j]? =some x/\ one x=true/\ RV κ F w c x)->bQ κ F w cs us
 |[],us,a,_=>by unfold bQ;exact rM (by simpa using a)
 |c::cs,[],a,_=>by simp at a
 |c::cs,u::us,a,h=>by
  obtain⟨x,b,d,e⟩:=h 0 c (by simp);simp at b;subst b;unfold bQ;exact⟨u,us,rfl,d,e,Dx (by simpa using a) fun j c f=>by simpa using h (j+1) c (by simpa using f)⟩
theorem yL:∀{cs:List AV},(∀c∈cs,NB U c)->bN U cs
 |[],_=>by unfold bN;trivial
 |c::cs,h=>by unfold bN;exact⟨h c (dU ..),yL fun x a=>h x (dZ _ a)⟩

theorem jdu{hole:Option (Nat×Nat)}{j n k i:Nat}(h:fV hole j n=true)(hi:i<n):hole≠some (k,j+i):=by
 intro e;subst e;simp only[fV,mF]at h;rcases h with h|h
 ·have:=by simpa[iW]using h
  omega
 ·have:=iQ h;omega

theorem Df{e:TypeId}{es:Nat}{u:Value}{m:Nat}{us:List Value}(a:Own w e es u m us){b f n c:Nat}(l:u=.slice (some ⟨b,f,none⟩) n c):
  n=m/\ ∀(j:Nat)(v:Value),us[j]? =some v->w.cell? ⟨b,f+j,none⟩=some v:=by
 subst l;refine⟨?_,fun j v k=>?_⟩
 ·rcases a.2 with⟨d,_⟩|⟨g,o,h,i,d,_⟩
  ·simp at d
  ·simp at d;omega
 ·exact a.cells rfl j v k

theorem Iq{e:TypeId}{es:Nat}{mask:List (Option TypeId)}{l:List D}{u:Value}{hole:Option (Nat×Nat)}{g:Nat}(q:eB F w e es mask l u (κ g).r hole){us:List Value}
  (hc:∀(k:Nat)(d:D)(j:Nat)(c:D),l[k]? =some d->d.cells[j]? =some c->∃x,us[k*es+j]? =some x/\ one x=true/\ match dA mask j with
   |none=>RD F w c x
   |some e'=>x=(κ g).r k j/\ (hole=some (k,j) \/∃es' rows,c=.sl es' rows/\ iq F w e' es' x rows)) (o:Nat) {k j:Nat} (p:k<l.length) (t:j<es) (s:(dA mask j).isSome=true->hole≠some (k,j)):
  ∃x,us[k*es+j]? =some x/\ one x=true/\ RV κ F w (match dA mask j with|some _=>.row o g k j|none=>.dat ((l.getD k (.sc undef)).cells.getD j (.sc undef))) x:=by
 have b:=jR (d:=D.sc undef) p;have i:=q.cells k _ b;have f:=jR (d:=D.sc undef) (l:=(l.getD k (.sc undef)).cells) (k:=j) (by omega);obtain⟨x,n,h,a⟩:=hc k _ j _ b f;refine⟨x,n,h,?_⟩;cases m:dA mask j with
 |none=>rw[m]at a;simp only[]at a ⊢;unfold RV;exact a
 |some e'=>
  rw[m]at a;simp only[]at a ⊢;unfold RV;exact⟨a.1,h⟩

theorem RX(N:∀t x,ty t=some x->bS P t x)(h:dh cx κ F w U σ){o:Oper}{ρ:Operand->Value}{e:Operand->AV}(he:∀x,RV κ F w (e x) (ρ x)){t:TypeId}{x:Operand}(R:o.op=.load t x){T:bD}{ob es k j:Nat}(hT:ty t=some T)(I:e x=.eref ob es k j):
  dP P cx κ F w U nm σ o ρ (nu σ T ob es k j):=by
 have E:=N t T hT;have O:=he x;rw[I]at O;unfold RV at O;obtain⟨b,f,n,V,hk,S⟩:=O;unfold nu;split
 ·rename_i e' es' mask l g hole B;have M:eB F w e' es' mask l (κ ob).v (κ g).r hole:=h.ok ob _ B;obtain⟨us,C,D,hc⟩:=M.mem;obtain⟨_,a⟩:=Df C hk;have z:=h.nb ob _ B;have A:∀j,NB U (match dA mask j with|some _=>AV.row ob g k j|none=>.dat ((l.getD k (.sc undef)).cells.getD j (.sc undef))):=fun j=>by
   split
   ·unfold NB;exact⟨z.1,z.2⟩
   ·unfold NB;trivial
  split
  ·rename_i H;subst H;split
   ·rename_i J;split
    ·rename_i K;intro d;obtain⟨m,s⟩:=(show _/\ _ from d);have Z:(k+1)*es<=l.length*es:=l8 _ m;have Q:(k+1)*es=k*es+es:=by rw[iD,nH]
     have L:bQ κ F w (tH ob g k mask (l.getD k (.sc undef)) j T.size) ((us.drop (k*es+j)).take T.size):=by
      refine Dx (by rw[eF,gY,D];unfold tH;rw[iy,mo];omega) fun i c hi=>?_;unfold tH at hi;rw[lu]at hi;have q:i<T.size:=rQ fun hn=>by
       rw[lC (by simpa using qw hn)]at hi;cases hi
      rw[pI q]at hi;simp only[gW,bU]at hi;subst hi;obtain⟨x,W,X,Y⟩:=Iq M hc ob (j:=j+i) m (by omega) fun _=>jdu K q;refine⟨x,?_,X,Y⟩;rw[kL q,iX,<-W];congr 1;omega
     refine dW (oW R S (vL E J (us:=(us.drop (k*es+j)).take T.size) ?_ ?_)) (fJ h (uY L) (ny (yL fun c y=>?_)))
     ·rw[eF,gY,D];omega
     ·intro i u hi;rw[j5];refine a _ u ?_;rw[nI]at hi;split at hi
      ·rw[iX]at hi;exact hi
      ·cases hi
     ·unfold tH at y;obtain⟨i,_,rfl⟩:=jE.1 y;exact A (j+i)
    ·intro d;exact d.elim
   ·rename_i J;have key:k<l.length->j<es->((dA mask j).isSome=true->hole≠some (k,j))->∀{rd:List Nat}{p:Prop},Out P o ρ w (SR cx κ F w U nm σ (.bR p rd (match dA mask j with|some _=>.row ob g k j|none=>.dat ((l.getD k (.sc undef)).cells.getD j (.sc undef))) [])):=by
     intro m s p3 rd p;obtain⟨u,u1,u2,u3⟩:=Iq M hc ob m s p3;exact dW (oW R S (vM E (by simpa using J) (u:=u) (a _ u u1))) (fJ h u3 (A j))
    split
    ·rename_i G;intro d;obtain⟨m,s⟩:=(show _/\ _ from d);have:=key m s (by rw[G];simp) (rd:=[ob]) (p:=k<l.length/\ j<es);rw[G]at this;exact this
    ·rename_i e2 G;split
     ·rename_i K;intro d;obtain⟨m,s⟩:=(show _/\ _ from d);have:=key m s (fun _=>by simpa using jdu (k:=k) (i:=0) K (by omega)) (rd:=[ob]) (p:=k<l.length/\ j<es);rw[G]at this;exact this
     ·intro d;exact d.elim
  ·intro d;exact d.elim
 ·intro d;exact d.elim

theorem nY{o g:Nat}{t:vS}(h:gM σ o g=some t):σ o=some (.tab t.e t.es t.mask t.l g t.hole):=by
 unfold gM at h;split at h
 ·rename_i e es mask l c hole a;split at h
  ·rename_i b;subst b;cases h;exact a
  ·cases h
 ·cases h

theorem p9(h:dh cx κ F w U σ){o g k j:Nat}{t:vS}(y:gM σ o g=some t)(u:k<t.l.length)(x:(dA t.mask j).isSome=true)(s:fV t.hole j 1=true):
  ∃e',dA t.mask j=some e'/\ iq F w e' (dM t.l k j).1 ((κ g).r k j) (dM t.l k j).2/\ (t.l.getD k (.sc undef)).cells[j]? =some (.sl (dM t.l k j).1 (dM t.l k j).2)/\ fU t.mask t.l.length t.hole k j:=by
 have a:=nY y;have m:fU t.mask t.l.length t.hole k j:=⟨u,x,by simpa using jdu (k:=k) (i:=0) s (by omega)⟩;have b:eB F w t.e t.es t.mask t.l (κ o).v (κ g).r t.hole:=h.ok o _ a;obtain⟨d,e',es',rows,n,p,f,q⟩:=b.row m;have hd:t.l.getD k (.sc undef)=d:=by rw[dD,n];rfl
 have c:dM t.l k j=(es',rows):=by
  unfold dM gK;rw[hd,dD,f];rfl
 rw[c,hd];exact⟨e',p,q,f,m⟩

theorem RG(h:dh cx κ F w U σ){o:Oper}{ρ:Operand->Value}{e:Operand->AV}(u:∀x,RV κ F w (e x) (ρ x)){x:Operand}{t:TypeId}(y:o.op=.call {callee:=.builtin .len,args:= #[x],argTypes:= #[t]})
  {ob g k j:Nat} (p:∃el,P.underlying t=some (.slice el)) (m:e x=.row ob g k j):dP P cx κ F w U nm σ o ρ (p8 σ ob g k j):=by
 obtain⟨el,p⟩:=p;have q:∀v,(Builtin.len_ #[t] o.type #[ρ x]).run P w=.ok v w->(execOp ρ o).run P w=.ok (.value v) w:=by
  intro v A;unfold execOp;simp only[y,resolve,invoke,builtin,Sem.run_bind,Sem.run_pure,Result.andThen_ok,rG,dX,jv,A]
 have b:∀a n c,ρ x=.slice a n c->(execOp ρ o).run P w=.ok (.value (.int .i64 n)) w:=fun a n c B=>q _ (by
  rw[B];simp only[Builtin.len_,uh,mM,Sem.run_bind,run_underlying p,Result.andThen_ok,goInt,Sem.run_pure])
 have i:=u x;rw[m]at i;unfold RV at i;unfold p8;split
 ·rename_i E z;split
  ·rename_i hc;refine fun d=>(jr h rfl fun d=>?_) d;obtain⟨e',_,⟨us,f,_⟩,_⟩:=p9 h z d hc.2 hc.1;rcases f.2 with⟨l,s⟩|⟨D,C,c,r,l,_⟩
   ·rw[s];exact b _ _ _ (by rw[i.1,l])
   ·exact b _ _ _ (by rw[i.1,l])
  ·intro d;exact d.elim
 ·intro d;exact d.elim

theorem Sk(r:∀t x,ty t=some x->bS P t x)(h:dh cx κ F w U σ){o:Oper}{ρ:Operand->Value}{e:Operand->AV}(z:∀x,RV κ F w (e x) (ρ x))(C:∀x,NB U (e x)){t:TypeId}{x i:Operand}(D:o.op=.indexAddr t x i)
  {el:TypeId} {E:bD} {kk:IntKind} {n:Int} {ob g k j:Nat} (p:iY ty t=some (el,E)) (hi:fE (e i)=some (kk,n)) (q:e x=.row ob g k j):dP P cx κ F w U nm σ o ρ (qg σ E ob g k j n):=by
 obtain⟨H,v⟩:=nD r p;have M:=jl hi (z i);have u:∀(b:Nat)(a len c:Nat),ρ x=.slice (some ⟨b,a,none⟩) len c->0<=n->n<len->(execOp ρ o).run P w=.ok (.value (.pointer (some ⟨b,a+n.toNat*E.size,none⟩))) w:=by
  intro b a len c I h0 B;unfold execOp;simp only[D];refine iK _ ?_;have hc:0<=n/\ n<(len:Int):=⟨h0,B⟩;simp only[Instr.indexAt,I,M,asIntOf,Sem.run_bind,Sem.run_pure,Result.andThen_ok,run_underlying H,hc,and_self,if_true,jm v,zA]
 have s:=z x;have d:=C x;rw[q]at s d;unfold RV at s;unfold qg;split
 ·rename_i Q G;split
  ·rename_i hc;intro l;obtain⟨J,O,K,L⟩:=(show _/\ _/\ _/\ _ from l);obtain⟨e',_,⟨us,f,_⟩,_⟩:=p9 h G J hc.2 hc.1;rcases f.2 with⟨m,N⟩|⟨y,a,c,A,m,_⟩
   ·omega
   ·refine dW (u y a _ c (by rw[s.1,m]) K L) (fJ h ?_ ?_)
    ·unfold RV;exact⟨y,_,_,_,m,by rw[lN]⟩
    ·unfold NB at d ⊢;exact d
  ·intro l;exact l.elim
 ·intro l;exact l.elim

theorem RU(A:∀t x,ty t=some x->bS P t x)(h:dh cx κ F w U σ){o:Oper}{ρ:Operand->Value}{e:Operand->AV}(Q:∀x,RV κ F w (e x) (ρ x)){t:TypeId}{x:Operand}(I:o.op=.load t x){T:bD}{ob g k j es i c:Nat}(hT:ty t=some T)(y:e x=.fH ob g k j es i c):
  dP P cx κ F w U nm σ o ρ (nR σ T ob g k j es i c):=by
 have s:=A t T hT;have B:=Q x;rw[y]at B;unfold RV at B;obtain⟨b,f,n,O,G,K⟩:=B;unfold nR;split
 ·rename_i S J;split
  ·rename_i hc;split
   ·rename_i z;intro r;obtain⟨C,D,E,L⟩:=(show _/\ _/\ _/\ _ from r);obtain⟨e',_,⟨us,l,m,_⟩,_⟩:=p9 h J C hc.2 hc.1;rw[D]at l m;obtain⟨_,a⟩:=Df l G;obtain⟨v,M⟩:=RE.at i _ m (jR (d:=.sc undef) E);refine dW (oW I K (vL s z (us:=(((us.drop (i*es)).take es).drop c).take T.size) ?_ ?_)) (fJ h (yY ((v.drop c).take T.size)) (oO _))
    ·rw[eF,gY,M];omega
    ·intro q u p;rw[j5];refine a _ u ?_;rw[nI]at p;split at p
     ·rw[iX,nI]at p;split at p
      ·rw[iX]at p;rw[j5];exact p
      ·cases p
     ·cases p
   ·rename_i z;intro r;obtain⟨C,D,E,L⟩:=(show _/\ _/\ _/\ _ from r);obtain⟨e',_,⟨us,l,m,_⟩,_⟩:=p9 h J C hc.2 hc.1;rw[D]at l m;obtain⟨_,a⟩:=Df l G;obtain⟨v,M⟩:=RE.at i _ m (jR (d:=.sc undef) E);have H:=v.length;obtain⟨u,N,V,R⟩:=RC.at c _ v (jR (d:=.sc undef) (by omega));refine dW (oW I K (vM s (by simpa using z) (u:=u) (a _ u ?_))) (fJ h (by unfold RV;exact R) (oO _));rw[kL L,iX]at N;exact N
  ·intro r;exact r.elim
 ·intro r;exact r.elim

end
end
section
section
variable{P:Program}{cx:Cx}{κ:dx}{F:Nat->Prop}{w:World}{U:Nat->Prop}{nm:Nat}{σ:bJ}{ty:TypeId->Option bD}{Γ:Nat->Option dJ}

theorem Hg{e:TypeId}{es:Nat}{u:Value}{m:Nat}{us:List Value}(d:Own w e es u m us){b f n c:Nat}(x:u=.slice (some ⟨b,f,none⟩) n c){p:Nat}{vs:List Value}(v:p+vs.length<=m*es):
  ∃a eb fz,w.heap[b]? =some (.cells a eb fz)/\ rO e a.size fz/\ f+p+vs.length<=a.size/\ Own (w.setRow b (spl a.toList (f+p) vs).toArray) e es u m (spl us p vs):=by
 subst x;rcases d.2 with⟨h,_⟩|⟨g,y,o,a,h,⟨eb,fz,k,t⟩,l,q,r,s⟩
 ·simp at h
 ·simp at h;obtain⟨⟨rfl,rfl⟩,rfl,rfl⟩:=h;have z:n*es<=c*es:=l8 _ l;have i:f+c*es<=a.toList.length:=by rw[iF];exact r
  have j:=d.1;refine⟨a,eb,fz,k,t,by omega,?_,.inr ⟨b,f,c,_,rfl,⟨_,_,setRow_heap w b a _ eb _ k,by rwa [show(List.toArray (spl a.toList (f+p) vs)).size=a.size by rw[pG,mJ (by omega)];rfl]⟩,l,q,?_,?_⟩⟩
  ·rw[mJ (by omega),j]
  ·simp only[pG];rw[mJ (by omega)];exact i
  ·rw[List.toList_toArray,Io (by omega),Ip v (by rw[gY];omega),s]

theorem Ow{e:TypeId}{es:Nat}{u:Value}{l:List D}(h:iq F w e es u l){b f n r:Nat}(C:u=.slice (some ⟨b,f,none⟩) n r){i c:Nat}(hi:i<l.length){vs:List Value}(hc:c+vs.length<=es)(hF:¬F b){d:D}
  (hd:∀k,k.length=es->RC F w (l.getD i (.sc undef)).cells k->RC F w d.cells (spl k c vs)):
  ∃a eb fz,w.heap[b]? =some (.cells a eb fz)/\ rO e a.size fz/\ f+(i*es+c)+vs.length<=a.size/\ iq F (w.setRow b (spl a.toList (f+(i*es+c)) vs).toArray) e es u (l.set i d):=by
 obtain⟨us,g,q,o⟩:=h;have A:(i+1)*es<=l.length*es:=l8 _ hi;have B:(i+1)*es=i*es+es:=by rw[iD,nH]
 have E:=g.1;obtain⟨a,eb,fz,x,z,H,y⟩:=Hg g C (p:=i*es+c) (vs:=vs) (by omega);refine⟨a,eb,fz,x,z,by omega,?_⟩;obtain⟨G,v⟩:=RE.at i _ q (jR (d:=.sc undef) hi);have j:=RE.set i d _ q hi (hd _ v G) (by rw[mJ (by rw[eF,gY];omega),v]);rw[G6 hc (by omega)]at j;have t:∀m,F m->(w.setRow b (spl a.toList (f+(i*es+c)) vs).toArray).heap[m]? =w.heap[m]?:=fun m s=>
  setRow_other w b m _ fun e'=>hF (e'▸s)
 exact⟨_,by rw[gH];exact y,RE.mono (fun _ hb=>hb) t j,o⟩

theorem RO{d x:D}{j n:Nat}(a:d.cells.length=n)(c:j<n)(b:x.cells=[x]):(oV d j x).cells=d.cells.set j x:=by
 cases d with
 |agg cs=>rfl
 |sc v=>
  simp only[D.cells,gZ,mq,j4]at a;have:j=0:=by omega
  subst this;simp only[oV,D.cells,xV];exact b
 |sl e l=>
  simp only[D.cells,gZ,mq,j4]at a;have:j=0:=by omega
  subst this;simp only[oV,D.cells,xV];exact b

theorem eB.setRow{e:TypeId}{es:Nat}{mask:List (Option TypeId)}{l:List D}{u:Value}{r:Nat->Nat->Value}{hole:Option (Nat×Nat)}(h:eB F w e es mask l u r hole){k j:Nat}(E:fU mask l.length hole k j){w':World}
  (hF:∀b,F b->w'.heap[b]? =w.heap[b]?) (hb:∀b,blk (r k j)≠some b->(∃o,w.heap[b]? =some o)->w'.heap[b]? =w.heap[b]?) {e':TypeId} (hm:dA mask j=some e') {es':Nat} {rows:List D} (ha:iq F w' e' es' (r k j) rows):
  eB F w' e es mask (l.set k (oV (l.getD k (.sc undef)) j (.sl es' rows))) u r hole:=by
 obtain⟨us,⟨g1,J⟩,V,hc⟩:=h.mem;have T:=E.1;have m:=jR (d:=D.sc undef) T;have S:j<mask.length:=rQ fun hn=>by
  have:=E.2.1;unfold dA at this;rw[lC (qw hn)]at this;cases this
 have A:j<es:=kH S h.oH;have C:(oV (l.getD k (.sc undef)) j (.sl es' rows)).cells=(l.getD k (.sc undef)).cells.set j (.sl es' rows):=RO (h.cells k _ m) A rfl;have n:∀k' j',fU mask l.length hole k' j'->(k',j')≠(k,j)->∀b,blk (r k' j')=some b->w'.heap[b]? =w.heap[b]?:=fun k' j' B s b v=>by
  refine hb b (h.apart k' j' k j B E s b v) ?_;obtain⟨_,_,_,_,_,_,_,M⟩:=h.row B;have:=BK M v;exact⟨_,Array.getElem?_eq_getElem this⟩
 refine⟨h.pos,h.oH,fun k' d a=>?_,⟨us,⟨by rw[gH];exact g1,?_⟩,by rw[gH];exact V,fun k' d j' c a hd=>?_⟩,by rw[gH];exact h.apart,by rw[gH];exact h.outer⟩
 ·by_cases i:k'=k
  ·subst i;rw[j6 T]at a;cases a;rw[C,gH];exact h.cells _ _ m
  ·rw[iN (Ne.symm i)]at a;exact h.cells _ _ a
 ·rcases J with⟨J,g3⟩|⟨g,W,G,H,Z,k3,k4⟩
  ·exact .inl ⟨J,by rw[gH];exact g3⟩
  ·refine .inr ⟨g,W,G,H,by rw[gH];exact Z,?_,by rw[gH];exact k4⟩;obtain⟨eb,fz,k5,k6⟩:=k3;exact⟨eb,fz,(hb g (fun X=>h.outer k j E g X (by rw[Z];rfl)) ⟨_,k5⟩).trans k5,k6⟩
 ·have old:∀d c,l[k']? =some d->d.cells[j']? =some c->((k',j')≠(k,j))->∃x,us[k'*es+j']? =some x/\ one x=true/\ match dA mask j' with
   |none=>RD F w' c x
   |some e'=>x=r k' j'/\ (hole=some (k',j') \/∃es' rows,c=.sl es' rows/\ iq F w' e' es' x rows):=by
   intro d c a hd s;obtain⟨x,K,L,f⟩:=hc k' d j' c a hd;refine⟨x,K,L,?_⟩;cases q:dA mask j' with
   |none=>rw[q]at f;exact RD.mono (fun _ hb=>hb) hF f
   |some X=>
    rw[q]at f;simp only[]at f ⊢;obtain⟨Y,f⟩:=f;refine⟨Y,?_⟩;by_cases R:hole=some (k',j')
    ·exact .inl R
    ·rcases f with f|⟨I,t,O,N⟩
     ·exact absurd f R
     ·refine .inr ⟨I,t,O,iq.mono (fun _ hb=>hb) hF (fun b y=>?_) N⟩;rw[Y]at y;exact n k' j' ⟨(cK.1 a).1,by rw[q];rfl,R⟩ s b y
  by_cases i:k'=k
  ·subst i;rw[j6 T]at a;cases a;rw[C]at hd;by_cases p:j'=j
   ·subst p;have z:j'<(l.getD k' (.sc undef)).cells.length:=by rw[h.cells _ _ m];exact A
    rw[j6 z]at hd;cases hd;have Q:=jR (d:=D.sc undef) z;obtain⟨x,K,L,f⟩:=hc k' _ j' _ m Q;refine⟨x,K,L,?_⟩;rw[hm]at f ⊢;simp only[]at f ⊢;exact⟨f.1,.inr ⟨es',rows,rfl,by rw[f.1];exact ha⟩⟩
   ·rw[iN (Ne.symm p)]at hd;exact old _ _ m hd (by simp[p])
  ·rw[iN (Ne.symm i)]at a;exact old _ _ a hd (by simp[i])

theorem Sm(ad:∀t x,ty t=some x->bS P t x)(h:dh cx κ F w U σ){o:Oper}{ρ:Operand->Value}{e:Operand->AV}(he:∀x,RV κ F w (e x) (ρ x))(hn:∀x,NB U (e x)){t:TypeId}{a x:Operand}(ho:o.op=.store t a x)
  {T:bD} {cs:List AV} {ds:List D} {ob g k j es i c:Nat} (hT:ty t=some T) (X:(e x).cells=some cs) (I:cs.length=T.size) (Y:jG cs=some ds) (Z:e a=.fH ob g k j es i c):dP P cx κ F w U nm σ o ρ (nV ty σ ob g k j es i c ds):=by
 have af:=ad t T hT;obtain⟨hc,aj⟩:=qR X (he x) (hn x);have J:(ρ x).cells.size=cs.length:=by rw[<-iF];exact hc.length
 have W:=zL Y;subst W;have C:=zN hc;rw[iy]at J I;have S:=he a;rw[Z]at S;unfold RV at S;obtain⟨b,f,n,ah,Q,hρ⟩:=S;unfold nV;split
 ·rename_i q ht;split
  ·rename_i E hE;split
   ·rename_i V;obtain⟨hh,ai⟩:=V;have hm:(dA q.mask j).isSome=true:=by
     cases hm:dA q.mask j with
     |none=>rw[hm]at hE;cases hE
     |some _=>rfl
    have G:=nY ht;have key:∀(d:D),k<q.l.length->(dM q.l k j).1=es->i<(dM q.l k j).2.length->c+ds.length<=es->
      (∀y,y.length=es->RC F w ((dM q.l k j).2.getD i (.sc undef)).cells y->RC F w d.cells (spl y c (ρ x).cells.toList))->
      ∀{p:Prop}{rd:List Nat},Out P o ρ w (SR cx κ F w U nm σ (.bR p rd .und [(ob,some (.tab q.e q.es q.mask (q.l.set k (oV (q.l.getD k (.sc undef)) j (.sl es ((dM q.l k j).2.set i d)))) g q.hole))])):=by
     intro d M N O p4 hd p rd;obtain⟨e',aa,H,_,K⟩:=p9 h ht M hm hh;rw[N]at H;have A:=h.free ob _ G b (.inr ⟨k,j,K,by rw[Q];rfl⟩);have ac:eB F w q.e q.es q.mask q.l (κ ob).v (κ g).r q.hole:=h.ok ob _ G;have ae:(ρ x).cells.toList.length=ds.length:=by rw[iF,J]
     obtain⟨R,_,fz,c1,cz,c2,c3⟩:=Ow H Q O (vs:=(ρ x).cells.toList) (by rw[ae];exact p4) A.1 hd;have B:∀z,z≠b->(w.setRow b (spl R.toList (f+(i*es+c)) (ρ x).cells.toList).toArray).heap[z]? =w.heap[z]?:=fun z m=>setRow_other w b z _ m;refine xB (zR af ho hρ c1 (fun _ hj=>cz.not hj) (by rw[J,I]) (by rw[iF]at c2;exact c2) C.ones) (Ce (zP h G rfl rfl rfl (by simp) (fun z _ ab=>B z fun e'=>ab (.inr ⟨k,j,K,by rw[Q,e'];rfl⟩)) (fun z m=>?_) ?_ (h.nb ob _ G).2))
     ·rcases m with m|⟨k',j',L,m⟩
      ·exact .inl m
      ·rw[gH]at L;exact .inr ⟨k',j',L,m⟩
     ·show eB F _ q.e q.es q.mask _ (κ ob).v (κ g).r q.hole;refine ac.setRow K (fun z m=>B z fun e'=>A.1 (e'▸m)) (fun z m _=>B z fun e'=>m (by rw[Q,e'];rfl)) aa c3
    split
    ·rename_i hg;intro s;obtain⟨M,N,O,p4⟩:=(show _/\ _/\ _/\ _ from s);exact key (.agg _) M N O p4 fun y _ K=>RC.spl K C
    ·rename_i hg;split
     ·rename_i d;split
      ·rename_i h1;subst h1;intro s;obtain⟨M,N,O,rfl⟩:=(show _/\ _/\ _/\ _ from s);unfold RC at C;obtain⟨u,ak,g1,g2,g3,g4⟩:=C;unfold RC at g4;subst g4;refine key d M N O (by simp) fun y hl _=>?_;rw[g1];have:spl y 0 [u]=[u]:=by
        unfold spl;rw[oC,jD];simp only[gZ,mq,j4];rw[Eb (by omega)];rfl
       rw[this];exact yT g2 g3
      ·intro s;exact s.elim
     ·intro s;exact s.elim
   ·intro s;exact s.elim
  ·intro s;exact s.elim
 ·intro s;exact s.elim

end
end
section

structure kF(κ:dx)(σ:bJ)(F:Nat->Prop)(w:World)(mask:List (Option TypeId))(es:Nat)(l:List D)(us:List Value)(hole:Option (Nat×Nat))(src:Nat->Nat->Option Sc):Prop where
 len:us.length=l.length*es
 cells:∀(k:Nat)(d:D),l[k]? =some d->d.cells.length=es
 cell:∀(k:Nat)(d:D)(j:Nat)(c:D),l[k]? =some d->d.cells[j]? =some c->∃x,us[k*es+j]? =some x/\ one x=true/\ match dA mask j with
  |none=>RD F w c x
  |some e'=>hole=some (k,j) \/((∃es' rows,c=.sl es' rows/\ iq F w e' es' x rows)/\ ∀b,blk x=some b->∃s,src k j=some s/\ jY κ σ s b)

section
variable{P:Program}{cx:Cx}{κ:dx}{F:Nat->Prop}{w:World}{U:Nat->Prop}{nm:Nat}{σ:bJ}{ty:TypeId->Option bD}{Γ:Nat->Option dJ}
variable{mask:List (Option TypeId)}{es:Nat}{l:List D}{us:List Value}{hole:Option (Nat×Nat)}{src:Nat->Nat->Option Sc}

theorem uT{j:Nat}(h:(dA mask j).isSome=true):j<mask.length:=rQ fun a=>by
 unfold dA at h;rw[lC (qw a)]at h;cases h

theorem kF.row(hC:kF κ σ F w mask es l us hole src)(h:mask.length<=es){k j:Nat}(v:fU mask l.length hole k j):∃d c x e' es' rows,l[k]? =some d/\ d.cells[j]? =some c/\ us[k*es+j]? =some x/\ dA mask j=some e'/\ c=.sl es' rows/\ iq F w e' es' x rows/\
  ∀b,blk x=some b->∃s,src k j=some s/\ jY κ σ s b:=by
 obtain⟨r,i,t⟩:=v;have g:=jR (d:=D.sc undef) r;have u:j<es:=kH (uT i) h;have f:j<(l.getD k (.sc undef)).cells.length:=by rw[hC.cells k _ g];exact u
 have e:=jR (d:=D.sc undef) f;obtain⟨x,n,y,a⟩:=hC.cell k _ j _ g e;obtain⟨e',m⟩:=DV.1 i;rw[m]at a;simp only[]at a;rcases a with a|⟨⟨es',rows,o,p⟩,q⟩
 ·exact absurd a t
 ·exact⟨_,_,x,e',es',rows,g,e,n,m,o,p,q⟩

theorem kF.wm(hC:kF κ σ F w mask es l us hole src)(a:mask.length<=es){k j b:Nat}(g:fU mask l.length hole k j)(hb:blk (us.getD (k*es+j) undef)=some b):∃s,src k j=some s/\ jY κ σ s b:=by
 obtain⟨d,c,x,e',es',rows,h,i,e,m,n,o,f⟩:=hC.row a g;rw[dD,e]at hb;exact f b hb

theorem kF.tab(h:dh cx κ F w U σ)(hC:kF κ σ F w mask es l us hole src)(m:0<es)(f:mask.length<=es){w':World}(hF:∀b,F b->w'.heap[b]? =w.heap[b]?)
  (hS:∀k j s b,fU mask l.length hole k j->src k j=some s->jY κ σ s b->w'.heap[b]? =w.heap[b]?) {e:TypeId} {u:Value} (i:Own w' e es u l.length us)
  (inj:∀k j k' j' s,fU mask l.length hole k j->fU mask l.length hole k' j'->src k j=some s->src k' j'=some s->(k,j)=(k',j'))
  (g:∀b,blk u=some b->w.heap.size<=b \/∃o,jY κ σ (.obj o) b/\ ∀k j,fU mask l.length hole k j->src k j≠some (.obj o)):
  eB F w' e es mask l u (fun k j=>us.getD (k*es+j) undef) hole:=by
 refine eB.fresh h m f hC.cells i (fun k d j c q hd=>?_) src (fun k j A b hb=>hC.wm f A hb) inj g;obtain⟨x,y,z,a⟩:=hC.cell k d j c q hd;refine⟨x,y,z,?_⟩;cases p:dA mask j with
 |none=>rw[p]at a;exact RD.mono (fun _ hb=>hb) hF a
 |some e'=>
  rw[p]at a;simp only[]at a ⊢;by_cases n:hole=some (k,j)
  ·exact .inl n
  ·rcases a with a|⟨⟨es',rows,r,t⟩,v⟩
   ·exact absurd a n
   ·refine .inr ⟨es',rows,r,iq.mono (fun _ hb=>hb) hF (fun b hb=>?_) t⟩;obtain⟨s,B,C⟩:=v b hb;exact hS k j s b ⟨(cK.1 q).1,by rw[p];rfl,n⟩ B C

def jg:AV->Option Nat
 | .own n=>some n
 |_=>none
theorem zJ{x:AV}{n:Nat}(h:jg x=some n):x=.own n:=by
 cases x with
 |own o=>simp only[jg,bU]at h;rw[h]
 |_=>cases h
theorem CY:∀{cs:List AV}{i i' n:Nat},(cs.filterMap jg).Nodup->cs[i]? =some (.own n)->cs[i']? =some (.own n)->i=i'
 |[],i,i',n,_,h,_=>by simp at h
 |x::cs,i,i',n,hd,h,a=>by
  have mem:∀{q:Nat},cs[q]? =some (AV.own n)->n∈cs.filterMap jg:=fun d=>qx.2 ⟨_,bT d,rfl⟩;rw[List.filterMap_cons]at hd;cases i with
  |zero=>
   simp only[mM,bU]at h;subst h;simp only[jg,jW]at hd;cases i' with
   |zero=>rfl
   |succ i'=>exact absurd (mem (by simpa using a)) hd.1
  |succ i=>
   cases i' with
   |zero=>
    simp only[mM,bU]at a;subst a;simp only[jg,jW]at hd;exact absurd (mem (by simpa using h)) hd.1
   |succ i'=>
    have b:(cs.filterMap jg).Nodup:=by
     cases c:jg x with
     |none=>rw[c]at hd;exact hd
     |some m=>rw[c]at hd;exact(jW.1 hd).2
    have:=CY (i:=i) (i':=i') (n:=n) b (by simpa using h) (by simpa using a);rw[this]

def kM(ty:TypeId->Option bD)(σ:bJ)(o g:Nat)(mask:List (Option TypeId))(hole:Option (Nat×Nat))(d:D)(a:List Nat)(j:Nat)(x:AV)(c:D):Prop:=
 match dA mask j with
 |none=>x=.dat c
 |some e'=>(∃n es rows,x=.own n/\ σ n=some (.arr e' es rows)/\ c=.sl es rows) \/(∃k',x=.row o g k' j/\ k'∈a/\ c=d.cells.getD j (.sc undef)/\ fV hole j 1=true) \/
   (x=.dat (.sc (.slice none 0 0))/\ ∃E,ty e'=some E/\ 0<E.size/\ c=.sl E.size []) \/
   (∃k' es lo n,x=.vw o g k' j es lo n/\ k'∈a/\ c=.sl es (((gK d j).2.take (lo+n)).drop lo)/\ fV hole j 1=true/\ (gK d j).1=es)

theorem kM.mono{o g:Nat}{d:D}{m a:List Nat}{j:Nat}{x:AV}{c:D}(hs:∀k∈m,k∈a)(h:kM ty σ o g mask hole d m j x c):kM ty σ o g mask hole d a j x c:=by
 unfold kM at*
 split
 ·rename_i i;rw[i]at h;exact h
 ·rename_i e' i;rw[i]at h;rcases h with h|⟨k',b,e,f⟩|h|⟨k',es,lo,n,b,e,f⟩
  ·exact .inl h
  ·exact .inr (.inl ⟨k',b,hs _ e,f⟩)
  ·exact .inr (.inr (.inl h))
  ·exact .inr (.inr (.inr ⟨k',es,lo,n,b,hs _ e,f⟩))

theorem xL{o g:Nat}{d:D}:∀{cs:List AV}{j:Nat}{ds:List D}{ns a:List Nat},oQ ty σ o g mask hole d j cs=some (ds,ns,a)->ds.length=cs.length/\ ns=cs.filterMap jg/\
  ∀(i:Nat)(x:AV),cs[i]? =some x->∃c,ds[i]? =some c/\ kM ty σ o g mask hole d a (j+i) x c
 |[],j,ds,ns,a,h=>by
  simp only[oQ,bU,eY]at h;obtain⟨rfl,rfl,rfl⟩:=h;exact⟨rfl,rfl,by simp⟩
 |x::cs,j,ds,ns,a,h=>by
  unfold oQ at h;split at h
  ·cases h
  ·rename_i p u t C;obtain⟨K,L,M⟩:=xL C;have fin:∀(c:D)(m:List Nat)(q:List Nat),(ds=c::p/\ ns=m++u/\ a=q++t)->(x::cs).filterMap jg=m++cs.filterMap jg->kM ty σ o g mask hole d a j x c->
     ds.length=(x::cs).length/\ ns=(x::cs).filterMap jg/\ ∀(i:Nat)(y:AV),(x::cs)[i]? =some y->∃c,ds[i]? =some c/\ kM ty σ o g mask hole d a (j+i) y c:=by
    rintro c m q ⟨rfl,rfl,rfl⟩ G J;refine⟨by simp[K],by rw[G,L],fun i y hi=>?_⟩;cases i with
    |zero=>
     simp only[mM,bU]at hi;subst hi;exact⟨c,by simp,J⟩
    |succ i=>
     obtain⟨v,A,B⟩:=M i y (by simpa using hi);refine⟨v,by simpa using A,?_⟩;rw[show j+(i+1)=j+1+i from by omega];exact B.mono fun k H=>jX _ H
   split at h
   ·rename_i b;split at h
    ·rename_i d';simp only[bU,eY]at h;obtain⟨rfl,rfl,rfl⟩:=h;exact fin d' [] [] ⟨rfl,rfl,rfl⟩ rfl (by unfold kM;rw[b])
    ·cases h
   ·rename_i e' b;split at h
    ·rename_i n;split at h
     ·rename_i N e rows I;split at h
      ·rename_i r;subst r;simp only[bU,eY]at h;obtain⟨rfl,rfl,rfl⟩:=h;exact fin (.sl e rows) [n] [] ⟨rfl,rfl,rfl⟩ rfl (by unfold kM;rw[b];exact .inl ⟨n,e,rows,rfl,I,rfl⟩)
      ·cases h
     ·cases h
    ·rename_i o' z k' j';split at h
     ·rename_i hc;obtain⟨rfl,rfl,rfl,s⟩:=hc;simp only[bU,eY]at h;obtain⟨rfl,rfl,rfl⟩:=h;exact fin _ [] [k'] ⟨rfl,rfl,rfl⟩ rfl (by unfold kM;rw[b];exact .inr (.inl ⟨k',rfl,by simp,rfl,s⟩))
     ·cases h
    ·rename_i o' z k' j' es' lo n;split at h
     ·rename_i hc;obtain⟨rfl,rfl,rfl,s,r⟩:=hc;simp only[bU,eY]at h;obtain⟨rfl,rfl,rfl⟩:=h;exact fin _ [] [k'] ⟨rfl,rfl,rfl⟩ rfl (by unfold kM;rw[b];exact .inr (.inr (.inr ⟨k',_,lo,n,rfl,by simp,rfl,s,r⟩)))
     ·cases h
    ·split at h
     ·rename_i E hE;split at h
      ·rename_i f;simp only[bU,eY]at h;obtain⟨rfl,rfl,rfl⟩:=h;exact fin _ [] [] ⟨rfl,rfl,rfl⟩ rfl (by unfold kM;rw[b];exact .inr (.inr (.inl ⟨rfl,E,hE,f,rfl⟩)))
      ·cases h
     ·cases h
    ·cases h

theorem zq(h:dh cx κ F w U σ){o g k:Nat}{d:D}{W:List Nat}{j:Nat}{x:AV}{c:D}{u:Value}(K:kM ty σ o g mask hole d W j x c)
  (p:W=[] \/∃e es l,σ o=some (.tab e es mask l g hole)/\ d=l.getD k (.sc undef)/\ k<l.length/\ ∀k'∈W,k'=k) (s:RV κ F w x u):
  match dA mask j with
  |none=>RD F w c u
  |some e'=>(∃es' rows,c=.sl es' rows/\ iq F w e' es' u rows)/\ ∀b,blk u=some b->jY κ σ (match jg x with|some n=>.obj n|none=>.row o k j) b:=by
 unfold kM at K;split at K
 ·subst K;unfold RV at s;exact s
 ·rename_i e' J;rcases K with⟨n,es',rows,rfl,Z,rfl⟩|⟨k',rfl,q,rfl,O⟩|⟨rfl,E,hE,G,rfl⟩|⟨k',es',lo,n,rfl,q,rfl,O,N⟩
  ·unfold RV at s;have:=h.ok n _ Z;refine⟨⟨es',rows,rfl,?_⟩,fun b hb=>?_⟩
   ·rw[s.1];exact this
   ·simp only[jg];exact⟨_,Z,by rw[<-s.1];exact hb⟩
  ·rcases p with p|⟨e,es,l,t,rfl,Q,A⟩
   ·rw[p]at q;cases q
   ·have:=A k' q;subst this;unfold RV at s;have V:eB F w e es mask l (κ o).v (κ g).r hole:=h.ok o _ t;have H:fU mask l.length hole k' j:=⟨Q,by rw[J];rfl,by simpa using jdu (k:=k') (i:=0) O (by omega)⟩;obtain⟨d',e2,y,f,L,B,M,I⟩:=V.row H;rw[J]at B;cases B;have hd:l.getD k' (.sc undef)=d':=by rw[dD,L];rfl
    refine⟨⟨y,f,?_,?_⟩,fun b hb=>?_⟩
    ·rw[hd,dD,M];rfl
    ·rw[s.1];exact I
    ·simp only[jg];exact⟨e,es,mask,l,g,hole,t,H,by rw[<-s.1];exact hb⟩
  ·unfold RV RD at s;rw[s.1];exact⟨⟨E.size,[],rfl,[],Own.nil w e' E.size,by unfold RE;rfl,G⟩,fun b hb=>by simp[blk]at hb⟩
  ·rcases p with p|⟨e,es,l,t,rfl,Q,A⟩
   ·rw[p]at q;cases q
   ·have:=A k' q;subst this;unfold RV at s;obtain⟨a,m,aa,z,ab,R,ac,hv⟩:=s;have V:eB F w e es mask l (κ o).v (κ g).r hole:=h.ok o _ t;have H:fU mask l.length hole k' j:=⟨Q,by rw[J];rfl,by simpa using jdu (k:=k') (i:=0) O (by omega)⟩;obtain⟨d',e2,y,f,L,B,M,us,I,g5,g6⟩:=V.row H;rw[J]at B;cases B;have hd:l.getD k' (.sc undef)=d':=by rw[dD,L];rfl
    have T:gK (l.getD k' (.sc undef)) j=(y,f):=by unfold gK;rw[hd,dD,M];rfl
    rw[T]at N ⊢;simp only[]at N ⊢;subst N;have S:m=f.length:=by
     rcases I.2 with⟨q1,q2⟩|⟨_,_,_,_,q1,_⟩
     ·rw[z]at q1;simp only[Value.slice.injEq]at q1;omega
     ·rw[z]at q1;simp only[Value.slice.injEq]at q1;omega
    subst S;obtain⟨X,Y⟩:=I.cut z (Nat.le_add_right lo n) R;rw[pF]at X Y;have C:((f.take (lo+n)).drop lo).length=n:=by rw[gY,eF];omega
    refine⟨⟨y,_,rfl,_,by rw[C,hv];exact X,?_,g6⟩,fun b hb=>?_⟩
    ·exact(g5.take (lo+n)).drop lo
    ·simp only[jg];refine⟨e,es,mask,l,g,hole,t,H,?_⟩;rw[<-hb,hv,<-qW _ ⟨_,_,_,z⟩,<-qW _ ⟨_,_,_,rfl⟩];exact Y.symm

end
end
section
section
variable{P:Program}{cx:Cx}{κ:dx}{F:Nat->Prop}{w:World}{U:Nat->Prop}{nm:Nat}{σ:bJ}{ty:TypeId->Option bD}{Γ:Nat->Option dJ}

theorem Og{k c b es:Nat}(g:b<es)(a:c≠k){p:Nat}(d:k*es<=p)(f:p<k*es+es):c*es+b≠p:=by
 intro e;rcases Nat.lt_or_gt_of_ne a with hlt|hlt
 ·have:=l8 es hlt;rw[Nat.succ_mul]at this;omega
 ·have:=l8 es hlt;rw[Nat.succ_mul]at this;omega

theorem Qf{hole:Option (Nat×Nat)}{j n k b a:Nat}(i:∀h m,hole=some (h,m)->fV hole j n=false->h=k)(d:lJ hole j n≠some (b,a))(l:¬(b=k/\ j<=a/\ a<j+n)):hole≠some (b,a):=by
 intro e;unfold lJ at d;cases hb:fV hole j n with
 |true=>rw[hb]at d;exact d e
 |false=>
  have:=i b a e hb;rw[e]at hb;simp only[fV,qz]at hb;refine l ⟨this,?_,?_⟩
  ·have f:=hb.1;apply rQ;intro c;rw[show Nat.blt a j=true from by simpa[iW]using Nat.lt_of_not_le c]at f;cases f
  ·have g:=hb.2;apply rQ;intro c;rw[show Nat.ble (j+n) a=true from by simpa using qw c]at g;cases g

theorem Sq(aQ:∀t x,ty t=some x->bS P t x)(h:dh cx κ F w U σ)(hf:¬U nm){o:Oper}{ρ:Operand->Value}{e:Operand->AV}(he:∀x,RV κ F w (e x) (ρ x))(hn:∀x,NB U (e x)){t:TypeId}{a x:Operand}(ho:o.op=.store t a x)
  {T:bD} {cs:List AV} {ob es k j:Nat} (hT:ty t=some T) (aJ:(e x).cells=some cs) (ay:cs.length=T.size) (aL:e a=.eref ob es k j):dP P cx κ F w U nm σ o ρ (nW ty σ nm ob es k j cs):=by
 have aU:=aQ t T hT;obtain⟨hc,aZ⟩:=qR aJ (he x) (hn x);have aE:(ρ x).cells.size=cs.length:=by rw[<-iF];exact hc.length
 have aS:(ρ x).cells.toList.length=cs.length:=by rw[iF];exact aE
 have ha:=he a;rw[aL]at ha;unfold RV at ha;obtain⟨b,f,n,aV,hk,hρ⟩:=ha;unfold nW;split
 ·rename_i e' es' mask l g hole M;have ht:eB F w e' es' mask l (κ ob).v (κ g).r hole:=h.ok ob _ M;have hU:=h.nb ob _ M;split
  ·rename_i E ds ns ks hE aB;obtain⟨q1,q2,q3⟩:=xL aB;split
   ·rename_i aI;obtain⟨rfl,aW⟩:=aI;have key:∀(d:D),k<l.length->j+ds.length<=es->(∀k'∈ks,k'=k)->(∀k0 j0,hole=some (k0,j0)->fV hole j ds.length=false->k0=k)->ns.Nodup->
      d.cells=spl (l.getD k (.sc undef)).cells j ds->∀{p:Prop}{rd:List Nat},Out P o ρ w (SR cx κ F w U nm σ (.bR p rd .und (lU ns++[(ob,some (.tab e' es mask (l.set k d) nm (lJ hole j ds.length)))]))):=by
     intro d p1 p2 p3 p4 p5 hd p rd;obtain⟨us,aA,aR,am⟩:=ht.mem;have ao:=jR (d:=D.sc undef) p1;have ar:=ht.cells k _ ao;have bc:(k+1)*es<=l.length*es:=l8 _ p1;have be:(k+1)*es=k*es+es:=by rw[iD,nH]
     obtain⟨ap,_,fz,c1,cz,c2,c3⟩:=Hg aA hk (p:=k*es+j) (vs:=(ρ x).cells.toList) (by omega);have hW:∀G,G≠b->(w.setRow b (spl ap.toList (f+(k*es+j)) (ρ x).cells.toList).toArray).heap[G]? =w.heap[G]?:=fun G B=>setRow_other w b G _ B;generalize aa:w.setRow b (spl ap.toList (f+(k*es+j)) (ρ x).cells.toList).toArray=w' at*
     have ad:blk (κ ob).v=some b:=by rw[hk];rfl
     have ai:jY κ σ (.obj ob) b:=⟨_,M,ad⟩
     let src:Nat->Nat->Option Sc:=fun C z=>if C=k/\ j<=z/\ z<j+ds.length then some (match jg (cs.getD (z-j) .und)with|some n=>.obj n|none=>.row ob k z)else some (.row ob C z)
     have V:∀i x,cs[i]? =some x->i<ds.length->src k (j+i)=some (match jg x with|some n=>.obj n|none=>.row ob k (j+i)):=fun i x hi K=>by
      show(if k=k/\ j<=j+i/\ j+i<j+ds.length then some (match jg (cs.getD (j+i-j) .und)with|some n=>Sc.obj n|none=>.row ob k (j+i))else some (.row ob k (j+i)))=_;rw[if_pos ⟨rfl,by omega,by omega⟩,show j+i-j=i from by omega,dD,hi];rfl
     have N:∀C z,¬(C=k/\ j<=z/\ z<j+ds.length)->src C z=some (.row ob C z):=fun C z ae=>by
      show(if C=k/\ j<=z/\ z<j+ds.length then _ else some (Sc.row ob C z))=_;rw[if_neg ae]
     have ak:∀q,(spl us (k*es+j) (ρ x).cells.toList)[q]? =if q<k*es+j then us[q]? else if q<k*es+j+ds.length then(ρ x).cells.toList[q-(k*es+j)]? else us[q]?:=fun q=>by
      rw[nX (by omega),aS,q1]
     have W:kF κ σ F w mask es (l.set k d) (spl us (k*es+j) (ρ x).cells.toList) (lJ hole j ds.length) src:=by
      refine⟨?_,fun C d1 L=>?_,fun C d1 z c1 L I=>?_⟩
      ·rw[mJ (by omega),gH];exact aR
      ·by_cases O:C=k
       ·subst O;rw[j6 p1]at L;cases L;rw[hd,mJ (by omega)];exact ar
       ·rw[iN (Ne.symm O)]at L;exact ht.cells _ _ L
      ·
       have old:∀d0,l[C]? =some d0->d0.cells[z]? =some c1->¬(C=k/\ j<=z/\ z<j+ds.length)->z<es->∃ac,(spl us (k*es+j) (ρ x).cells.toList)[C*es+z]? =some ac/\ one ac=true/\ match dA mask z with
         |none=>RD F w c1 ac
         |some e'=>lJ hole j ds.length=some (C,z) \/((∃es' rows,c1=.sl es' rows/\ iq F w e' es' ac rows)/\ ∀b,blk ac=some b->∃s,src C z=some s/\ jY κ σ s b):=by
        intro d0 ax aN ae aO;obtain⟨u,u1,u2,u3⟩:=am C d0 z c1 ax aN;refine⟨u,?_,u2,?_⟩
        ·rw[ak];by_cases O:C=k
         ·subst O;by_cases bb:z<j
          ·rw[if_pos (by omega)];exact u1
          ·rw[if_neg (by omega),if_neg (by omega)];exact u1
         ·by_cases hq:C*es+z<k*es+j
          ·rw[if_pos hq];exact u1
          ·rw[if_neg hq,if_neg ?_]
           ·exact u1
           ·intro bg;exact Og aO O (p:=C*es+z) (by omega) (by omega) rfl
        ·cases Q:dA mask z with
         |none=>rw[Q]at u3;exact u3
         |some e2=>
          rw[Q]at u3;simp only[]at u3 ⊢;by_cases hh:lJ hole j ds.length=some (C,z)
          ·exact .inl hh
          ·have au:=Qf (fun k0 j0=>p4 k0 j0) hh ae;rcases u3 with⟨u3,u6|⟨aq,ab,u4,u5⟩⟩
           ·exact absurd u6 au
           ·refine .inr ⟨⟨aq,ab,u4,u5⟩,fun G B=>⟨_,N C z ae,e',es,mask,l,g,hole,M,⟨(cK.1 ax).1,by rw[Q];rfl,au⟩,by rw[<-u3];exact B⟩⟩
       by_cases O:C=k
       ·subst O;rw[j6 p1]at L;cases L;have X:z<es:=by
         have:=(cK.1 I).1;rw[hd,mJ (by omega),ar]at this;exact this
        rw[hd,nX (by omega)]at I;by_cases h1:z<j
        ·rw[if_pos h1]at I;exact old _ ao I (by omega) X
        ·rw[if_neg h1]at I;by_cases h2:z<j+ds.length
         ·rw[if_pos h2]at I;have K:z-j<cs.length:=by omega
          obtain⟨u,u1,u2,u3⟩:=bQ.at (z-j) _ hc (fO K);obtain⟨cc,v1,v2⟩:=q3 (z-j) _ (fO K);rw[I]at v1;cases v1;rw[show j+(z-j)=z from by omega]at v2;refine⟨u,?_,u2,?_⟩
          ·rw[ak,if_neg (by omega),if_pos (by omega),show C*es+z-(C*es+j)=z-j from by omega];exact u1
          ·have J:=zq h v2 (.inr ⟨e',es,l,M,rfl,p1,p3⟩) u3;have S:=V (z-j) _ (fO K) (by omega);rw[show j+(z-j)=z from by omega]at S;cases Q:dA mask z with
           |none=>rw[Q]at J;exact J
           |some e2=>
            rw[Q]at J;simp only[]at J ⊢;exact .inr ⟨J.1,fun G B=>⟨_,S,J.2 G B⟩⟩
         ·rw[if_neg h2]at I;exact old _ ao I (by omega) X
       ·rw[iN (Ne.symm O)]at L;have X:z<es:=by
         have:=(cK.1 I).1;rw[ht.cells _ _ L]at this;exact this
        exact old _ L I (by simp[O]) X
     have A:∀C z s,fU mask (l.set k d).length (lJ hole j ds.length) C z->src C z=some s->s=.row ob C z \/∃i n,C=k/\ z=j+i/\ i<ds.length/\ cs[i]? =some (.own n)/\ s=.obj n:=by
      intro C z s _ hs;by_cases aw:C=k/\ j<=z/\ z<j+ds.length
      ·obtain⟨rfl,h2,h3⟩:=aw;have K:z-j<cs.length:=by omega
       have S:=V (z-j) _ (fO K) (by omega);rw[show j+(z-j)=z from by omega,hs]at S;simp only[bU]at S;cases hx:jg (cs[z-j])with
       |none=>rw[hx]at S;exact .inl S
       |some n=>
        rw[hx]at S;exact .inr ⟨z-j,n,rfl,by omega,by omega,by rw[fO K,zJ hx],S⟩
      ·rw[N C z aw]at hs;exact .inl (gT hs).symm
     have R:∀(i n:Nat),cs[i]? =some (AV.own n)->n∈ns:=fun i n hi=>by rw[q2];exact qx.2 ⟨_,bT hi,rfl⟩
     have aP:∀n∈ns,∃e es rows,σ n=some (.arr e es rows):=fun n hn=>by
      rw[q2]at hn;obtain⟨y,hy,aT⟩:=qx.1 hn;have:=zJ aT;subst this;obtain⟨i,hi⟩:=jJ hy;obtain⟨c,v1,v2⟩:=q3 i _ hi;unfold kM at v2;split at v2
      ·cases v2
      ·rcases v2 with⟨m,es',rows,Q,hσ,_⟩|⟨_,Q,_⟩|⟨Q,_⟩|⟨_,_,_,_,Q,_⟩
       ·cases Q;exact⟨_,_,_,hσ⟩
       ·cases Q
       ·cases Q
       ·cases Q
     have aj:ob∉ns:=fun Q=>by
      obtain⟨_,_,_,h1⟩:=aP ob Q;rw[M]at h1;cases h1
     have aG:∀C z s G,fU mask (l.set k d).length (lJ hole j ds.length) C z->src C z=some s->jY κ σ s G->G≠b:=by
      intro C z s G hr hs B e2;subst e2;have:=zx h B ai;rcases A C z s hr hs with rfl|⟨i,n,_,_,_,hi,rfl⟩
      ·cases this
      ·cases this;exact aj (R i ob hi)
     have aF:∀G,F G->G≠b:=fun G B e2=>(h.free ob _ M b (.inl ad)).1 (e2▸B);have az:ob≠nm:=fun e2=>hf (e2▸hU.1);refine xB (w':=w') (by rw[<-aa];exact zR aU ho hρ c1 (fun _ hj=>cz.not hj) (by rw[aE,ay]) (by rw[iF]at c2;exact c2) hc.ones) ?_;refine⟨.und,_,eO κ nm ⟨undef,fun C z=>(spl us (k*es+j) (ρ x).cells.toList).getD (C*es+z) undef⟩,F,⟨rfl,rfl⟩,?_,by unfold RV;rfl,by unfold NB;trivial⟩;refine y7 h hf (ob::ns) ob (.inr hU.1) (by rw[<-aa];rfl) (by rw[<-aa];rfl) (by rw[<-aa];rfl) (by rw[<-aa];simp) (fun G _ B=>hW G fun e2=>B ob (dU ..) _ M (.inl (by rw[e2];exact ad))) (x:=.tab e' es mask (l.set k d) nm (lJ hole j ds.length)) (fun G B=>?_) ?_ fI ?_
     ·left;rcases B with B|⟨C,z,hr,B⟩
      ·simp only[eO,if_neg az]at B;exact⟨ob,dU ..,_,M,.inl B⟩
      ·simp only[eO,if_true]at B;obtain⟨s,g1,g2⟩:=W.wm ht.oH hr B;obtain⟨y,hy,aH⟩:=g2.blk;refine⟨s.o,?_,y,hy,aH⟩;rcases A C z s hr g1 with rfl|⟨i,n,_,_,_,hi,rfl⟩
       ·exact dU ..
       ·exact dZ _ (R i n hi)
     ·show eB F w' e' es mask (l.set k d) (eO κ nm _ ob).v (eO κ nm _ nm).r (lJ hole j ds.length);simp only[eO,if_neg az,if_true];refine W.tab h ht.pos ht.oH (fun G B=>hW G (aF G B)) (fun C z s G hr hs B=>hW G (aG C z s G hr hs B)) (by rw[gH];exact c3) ?_ (fun G B=>.inr ⟨ob,?_,fun C z hr hs=>?_⟩)
      ·intro C z k2 j2 s hr aC hs aD;rcases A C z s hr hs with rfl|⟨i,n,rfl,rfl,ba,hi,rfl⟩
       ·rcases A k2 j2 _ aC aD with H|⟨i',n',_,_,_,_,H⟩
        ·cases H;rfl
        ·cases H
       ·rcases A k2 j2 _ aC aD with H|⟨i',n',rfl,rfl,_,aM,H⟩
        ·cases H
        ·cases H;rw[CY (by rw[<-q2];exact p5) hi aM]
      ·rw[ad]at B;cases B;exact ai
      ·rcases A C z _ hr hs with H|⟨i,n,_,_,_,hi,H⟩
       ·cases H
       ·cases H;exact aj (R i ob hi)
     ·intro o' y hy;rw[CK]at hy;have ah:upd (sj σ ns) ob (some (.tab e' es mask (l.set k d) nm (lJ hole j ds.length))) o'=some y:=hy;by_cases af:o'=ob
      ·subst af;rw[iP]at ah;exact .inl ⟨rfl,(gT ah).symm⟩
      ·rw[jq af]at ah;obtain⟨g1,g2⟩:=zK ah;exact .inr ⟨af,by simp[af,g2],g1⟩
    split
    ·rename_i hg;intro Y;obtain⟨p1,p2,p3,p4,p5⟩:=(show _/\ _/\ _/\ _/\ _ from Y);exact key (.agg _) p1 p2 p3 p4 p5 rfl
    ·rename_i hg;split
     ·rename_i d;split
      ·rename_i h1;subst h1;intro Y;obtain⟨p1,rfl,p3,p4,p5⟩:=(show _/\ _/\ _/\ _/\ _ from Y);refine key d p1 (by simp) p3 p4 p5 ?_;have aY:=ht.cells k _ (jR (d:=D.sc undef) p1);have aK:d.cells=[d]:=by
        have K:0<cs.length:=by rw[<-q1];simp
        obtain⟨c,v1,v2⟩:=q3 0 _ (fO K);simp only[mM,bU]at v1;subst v1;obtain⟨u,u1,u2,u3⟩:=bQ.at 0 _ hc (fO K);have J:=zq h v2 (.inr ⟨_,_,l,M,rfl,p1,p3⟩) u3;cases Q:dA mask (0+0)with
        |none=>
         rw[Q]at J;have Z:RD F w d u:=J;have h3:=(yT u2 Z).length;cases d with
         |agg cs'=>
          unfold RD at Z;obtain⟨bi,rfl,_⟩:=Z;cases u2
         |_=>rfl
        |some e2=>
         rw[Q]at J;obtain⟨aq,ab,rfl,_⟩:=J.1;rfl
       rw[aK];unfold spl;rw[oC,jD];simp only[gZ,mq,j4];rw[Eb (by omega),mD]
      ·intro Y;exact Y.elim
     ·intro Y;exact Y.elim
   ·intro Y;exact Y.elim
  ·intro Y;exact Y.elim
 ·intro Y;exact Y.elim

end
end
section
section
variable{P:Program}{cx:Cx}{κ:dx}{F:Nat->Prop}{w:World}{U:Nat->Prop}{nm:Nat}{σ:bJ}{ty:TypeId->Option bD}{Γ:Nat->Option dJ}

theorem G7(h:dh cx κ F w U σ){o:Nat}{e:TypeId}{es:Nat}{mask:List (Option TypeId)}{l:List D}{g:Nat}(f:σ o=some (.tab e es mask l g none)):
  ∃us,Own w e es (κ o).v l.length us/\ 0<es/\ mask.length<=es/\ kF κ σ F w mask es l us none fun k j=>some (.row o k j):=by
 have m:eB F w e es mask l (κ o).v (κ g).r none:=h.ok o _ f;obtain⟨us,i,p,hc⟩:=m.mem;refine⟨us,i,m.pos,m.oH,p,m.cells,fun k d j c q hd=>?_⟩;obtain⟨x,u,y,a⟩:=hc k d j c q hd;refine⟨x,u,y,?_⟩;cases n:dA mask j with
 |none=>rw[n]at a;exact a
 |some e'=>
  rw[n]at a;simp only[]at a ⊢;rcases a with⟨z,a|⟨es',rows,s,t⟩⟩
  ·cases a
  ·exact .inr ⟨⟨es',rows,s,t⟩,fun b hb=>⟨_,rfl,e,es,mask,l,g,none,f,⟨(cK.1 q).1,by rw[n];rfl,by simp⟩,by rw[<-z];exact hb⟩⟩

theorem kF.app{mask:List (Option TypeId)}{es:Nat}{l l':List D}{us g:List Value}{src f:Nat->Nat->Option Sc}(h:kF κ σ F w mask es l us none src)(m:kF κ σ F w mask es l' g none f):
  kF κ σ F w mask es (l++l') (us++g) none fun k j=>if k<l.length then src k j else f (k-l.length) j:=by
 refine⟨by rw[gu,gu,h.len,m.len,iD],fun k d b=>?_,fun k d j c b hd=>?_⟩
 ·by_cases a:k<l.length
  ·rw[jK a]at b;exact h.cells k d b
  ·rw[kg (qw a)]at b;exact m.cells _ d b
 ·by_cases a:k<l.length
  ·rw[jK a]at b;obtain⟨x,i,n,h3⟩:=h.cell k d j c b hd;refine⟨x,by rw[jK (cK.1 i).1];exact i,n,?_⟩;rw[if_pos a];exact h3
  ·rw[kg (qw a)]at b;obtain⟨x,i,n,h3⟩:=m.cell _ d j c b hd;refine⟨x,?_,n,?_⟩
   ·have e:k*es+j=us.length+((k-l.length)*es+j):=by
     rw[h.len];have:k=l.length+(k-l.length):=by omega
     rw[this,iD];simp only[pF];omega
    rw[e,kg (by omega),pF];exact i
   ·rw[if_neg a];cases o:dA mask j with
    |none=>rw[o]at h3;exact h3
    |some e'=>
     rw[o]at h3;simp only[]at h3 ⊢;rcases h3 with h3|h3
     ·cases h3
     ·exact .inr h3

theorem GD(h:dh cx κ F w U σ)(M:¬U nm){rm:List Nat}{v H:Value}{w':World}(t:w.grownBy w' (blk v))(L:∀b,blk v=some b->∃o∈rm,jY κ σ (.obj o) b)(f:blk H=blk v \/blk H=some w.heap.size)
  {e:TypeId} {es:Nat} {mask:List (Option TypeId)} {l:List D} {us:List Value} {src:Nat->Nat->Option Sc} (C:0<es) (u:mask.length<=es) (B:Own w' e es H l.length us) (hC:kF κ σ F w mask es l us none src)
  (E:∀k j s,fU mask l.length none k j->src k j=some s->s.o∈rm) (z:∀k j o b,fU mask l.length none k j->src k j=some (.obj o)->blk v=some b->¬jY κ σ (.obj o) b)
  (inj:∀k j k' j' s,fU mask l.length none k j->fU mask l.length none k' j'->src k j=some s->src k' j'=some s->(k,j)=(k',j')):
  kT cx κ F w U (eO κ nm ⟨H,fun k j=>us.getD (k*es+j) undef⟩) F w' (Un U nm) (upd (sj σ rm) nm (some (.tab e es mask l nm none))):=by
 have p:∀b,blk v=some b->∃o∈rm,∃x,σ o=some x/\ dw κ o x b:=fun b hb=>by
  obtain⟨o,d,hs⟩:=L b hb;obtain⟨x,q,a⟩:=hs.blk;exact⟨o,d,x,q,a⟩
 have m:∀b,b<w.heap.size->blk v≠some b->w'.heap[b]? =w.heap[b]?:=fun b hb n=>t.block b hb fun e=>n e.symm;have K:∀b,F b->blk v≠some b:=fun b hF hb=>by
  obtain⟨o,_,x,q,a⟩:=p b hb;exact(h.free o x q b a).1 hF
 refine y7 h M rm nm (.inl rfl) t.os t.tape t.output t.size (fun b hb A=>m b hb fun e=>?_) (x:=.tab e es mask l nm none) (fun b hb=>?_) ?_ fI ?_
 ·obtain⟨o,d,x,q,a⟩:=p b e;exact A o d x q a
 ·rcases hb with hb|⟨k,j,g,hb⟩
  ·simp only[eO,if_true]at hb;rcases f with h1|h1
   ·exact .inl (p b (by rw[<-h1];exact hb))
   ·rw[h1]at hb;simp at hb;exact .inr (by omega)
  ·simp only[eO,if_true]at hb;obtain⟨s,I,J⟩:=hC.wm u g hb;obtain⟨x,q,a⟩:=J.blk;exact .inl ⟨s.o,E k j s g I,x,q,a⟩
 ·show eB F w' e es mask l (eO κ nm _ nm).v (eO κ nm _ nm).r none;simp only[eO,if_true];have n:∀k j s b,fU mask l.length none k j->src k j=some s->jY κ σ s b->blk v≠some b:=fun k j s b g hs hb i=>by
   obtain⟨o,d,c⟩:=L b i;have:=zx h hb c;subst this;exact z k j o b g hs i c
  refine hC.tab h C u (fun b hb=>m b (h.fG b hb).2 (K b hb)) (fun k j s b g hs hb=>m b (yJ h hb) (n k j s b g hs hb)) B inj (fun b hb=>?_);rcases f with h1|h1
  ·rw[h1]at hb;obtain⟨o,d,c⟩:=L b hb;exact .inr ⟨o,c,fun k j g hs=>z k j o b g hs hb c⟩
  ·rw[h1]at hb;simp at hb;exact .inl (by omega)
 ·intro o y G;by_cases d:o=nm
  ·subst d;rw[iP]at G;exact .inl ⟨rfl,(gT G).symm⟩
  ·rw[jq d]at G;obtain⟨I,J⟩:=zK G;exact .inr ⟨d,J,I⟩

theorem kF.ones{mask:List (Option TypeId)}{es:Nat}{l:List D}{us:List Value}{src:Nat->Nat->Option Sc}(h:kF κ σ F w mask es l us none src)(c:0<es):∀u∈us,one u=true:=by
 intro u m;obtain⟨i,hi⟩:=jJ m;have a:=(cK.1 hi).1;rw[h.len]at a;have k:i/es<l.length:=Nat.div_lt_of_lt_mul (by rw[Nat.mul_comm];exact a);have b:=jR (d:=D.sc undef) k;have j:i%es<es:=Nat.mod_lt _ c;have e:=h.cells _ _ b;obtain⟨x,f,g,_⟩:=h.cell _ _ (i%es) _ b (jR (d:=D.sc undef) (by rw[e];exact j));rw[Nat.mul_comm,Nat.div_add_mod,hi]at f;cases f;exact g

theorem SF(am:∀t x,ty t=some x->bS P t x)(h:dh cx κ F w U σ)(hf:¬U nm){o:Oper}{ρ:Operand->Value}{e:Operand->AV}(he:∀x,RV κ F w (e x) (ρ x)){x y:Operand}{t:TypeId}
  (ho:o.op=.call {callee:=.builtin .append,args:= #[x,y],argTypes:= #[t,t]}) {el:TypeId} {E:bD} {W:Nat} (ai:iY ty t=some (el,E)) (p:0<E.size) (ac:E.zero.cells.size=E.size) (aj:e y=.own W):
  dP P cx κ F w U nm σ o ρ (qm σ nm el E (e x) W):=by
 have ae:∀v w',(Builtin.append_ #[t,t] o.type #[ρ x,ρ y]).run P w=.ok v w'->(execOp ρ o).run P w=.ok (.value v) w':=by
  intro v w' hv;unfold execOp;simp only[ho,resolve,invoke,builtin,Sem.run_bind,Sem.run_pure,Result.andThen_ok,rG,dX,jv,hv]
 obtain⟨hu,ar⟩:=nD am ai;obtain⟨_,i,i1,J,i3,i4,_⟩:=ar;have hy:=he y;rw[aj]at hy;unfold RV at hy;unfold qm;split
 ·rename_i e2 az aq l2 H ab;split
  ·rename_i hc;obtain⟨rfl,rfl⟩:=hc;obtain⟨M,q,_,O,B⟩:=G7 h ab;have G:∀u∈M,u.oneCell'=true:=fun u hu=>by rw[yS];exact B.ones p u hu
   obtain⟨a2,m2,c2,K⟩:∃a m c,(κ W).v=.slice a m c:=by
    obtain⟨a,c,A⟩:=Own.slice q;exact⟨a,_,c,A⟩
   have ak:m2=l2.length/\ (a2=none->m2=0/\ c2=0)/\ ∀ad,a2=some ad->∀j u,M[j]? =some u->w.cell? (ad.add j)=some u:=by
    rcases q.2 with⟨l,X⟩|⟨g,f,aw,ax,l,_⟩
    ·rw[K]at l;simp only[Value.slice.injEq]at l;exact⟨by rw[l.2.1,X],fun _=>⟨l.2.1,l.2.2⟩,fun ad C=>(by rw[l.1]at C;cases C)⟩
    ·have Y:=l;rw[K]at l;simp only[Value.slice.injEq]at l;refine⟨l.2.1,fun ha=>(by rw[l.1]at ha;cases ha),fun ad C j u hj=>?_⟩;rw[l.1]at C;cases C;rw[Addr.add_lit];exact q.cells Y j u hj
   obtain⟨rfl,N,r⟩:=ak;split
   ·rename_i R;have T:=he x;rw[R]at T;unfold RV RD at T;intro z;obtain⟨p1,p2⟩:=(show _/\ _ from z);obtain⟨v',w',l,H,X,g4⟩:=xK (P:=P) (w:=w) t o.type e2 i E.zero hu i1 i4 (by rw[ac,J]) (by rw[J];exact p) (.slice none 0 0) 0 [] (by rw[J];exact Own.nil w e2 E.size)
     a2 l2.length c2 N M (by rw[J];exact B.len) r G (by unfold maxLen;omega) (by rw[i3,j4];omega)
    rw[J]at H;simp only[j4,jD]at H;refine dW (ae _ _ (by rw[T.1,hy.1,K];exact l)) ?_;refine⟨.own nm,_,_,F,⟨rfl,rfl⟩,GD h hf (rm:=[W]) (v:=.slice none 0 0) X (by simp[blk]) g4 p O H B ?_ ?_ ?_,?_,jA _ fI⟩
    ·rintro k j s _ hs;cases hs;simp[Sc.o]
    ·rintro k j o' b _ hs;cases hs
    ·rintro k j k' j' s _ _ hs S;cases hs;cases S;rfl
    ·unfold RV;obtain⟨a,c,e'⟩:=Own.slice H;exact⟨by simp[eO],by rw[e'];rfl⟩
   ·rename_i V R;have T:=he x;rw[R]at T;unfold RV at T;split
    ·rename_i e1 ay ap L Y Q;split
     ·rename_i ah;obtain⟨rfl,rfl,rfl,aa⟩:=ah;obtain⟨au,D,_,_,af⟩:=G7 h Q;intro z;obtain⟨p1,p2⟩:=(show _/\ _ from z);obtain⟨v',w',l,H,X,g4⟩:=xK (P:=P) (w:=w) t o.type e1 i E.zero hu i1 i4 (by rw[ac,J]) (by rw[J];exact p) (κ V).v L.length au (by rw[J];exact D)
       a2 l2.length c2 N M (by rw[J];exact B.len) r G (by unfold maxLen;omega) (by rw[i3];omega)
      rw[J]at H;have Z:(L++l2).length=L.length+l2.length:=gu;rw[<-Z]at H;have ao:∃a n c,(κ V).v=.slice a n c:=by
       obtain⟨a,c,A⟩:=Own.slice D;exact⟨a,_,c,A⟩
      rw[qW _ ao]at X;refine dW (ae _ _ (by rw[T.1,hy.1,K];exact l)) ?_;have d:∀(k j:Nat)(s:Sc),(if k<L.length then some (Sc.row V k j)else some (Sc.row W (k-L.length) j))=some s->(k<L.length/\ s=.row V k j) \/(¬k<L.length/\ s=.row W (k-L.length) j):=fun k j s hs=>by
       by_cases hk:k<L.length
       ·rw[if_pos hk]at hs;exact .inl ⟨hk,(gT hs).symm⟩
       ·rw[if_neg hk]at hs;exact .inr ⟨hk,(gT hs).symm⟩
      refine⟨.own nm,_,_,F,⟨rfl,rfl⟩,GD h hf (rm:=[V,W]) (v:=(κ V).v) X (fun b hb=>⟨V,by simp,_,Q,hb⟩) g4 p O H (af.app B) ?_ ?_ ?_,?_,jA _ fI⟩
      ·intro k j s _ hs;rcases d k j s hs with⟨_,rfl⟩|⟨_,rfl⟩<;>simp[Sc.o]
      ·intro k j o' b _ hs;rcases d k j _ hs with⟨_,A⟩|⟨_,A⟩<;>cases A
      ·intro k j k' j' s _ _ hs S;rcases d k j _ hs with⟨k1,A⟩|⟨k1,A⟩<;>rcases d k' j' _ S with⟨k2,I⟩|⟨k2,I⟩
       ·rw[A]at I;cases I;rfl
       ·rw[A]at I;cases I;exact absurd rfl aa
       ·rw[A]at I;cases I;exact absurd rfl aa
       ·rw[A]at I;simp only[Sc.row.injEq,true_and]at I;rw[I.2,show k=k' from by omega]
      ·unfold RV;obtain⟨a,c,e'⟩:=Own.slice H;exact⟨by simp[eO],by rw[e'];rfl⟩
     ·intro z;exact z.elim
    ·intro z;exact z.elim
   ·intro z;exact z.elim
  ·intro z;exact z.elim
 ·intro z;exact z.elim

end
end
end Go.Ab
