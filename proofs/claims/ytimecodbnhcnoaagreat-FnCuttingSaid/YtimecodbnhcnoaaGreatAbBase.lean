/- My own layer: abstract values (plain data), what a value of the machine stands for, and that it goes on standing. No program in sight. -/
import Derived.WalkKit
import Derived.Orders
namespace Go.Ab
set_option linter.unusedVariables false
set_option linter.unusedSimpArgs false

inductive D where
 |sc (v:Value)
 |sl (es:Nat) (l:List D)
 |agg (l:List D)

def D.cells:D->List D
 | .agg l=>l
 |d=>[d]

def one:Value->Bool
 | .agg _| .tuple _=>false
 |_=>true

mutual
def RD(F:Nat->Prop)(w:World):D->Value->Prop
 | .sc u,v=>v=u/\ one u=true
 | .sl es l,v=>∃a c,v=.slice a l.length c/\ l.length<=c/\ c<=maxLen/\ (a=none->c=0)/\ (l=[] \/∃b d us,a=some ⟨b,d,none⟩/\ F b/\ us.length=l.length*es/\
   (∀j u,us[j]? =some u->w.cell? ⟨b,d+j,none⟩=some u)/\ RE F w es l us)
 | .agg l,v=>∃cs:List Value,v=.agg cs.toArray/\ RC F w l cs
def RC(F:Nat->Prop)(w:World):List D->List Value->Prop
 |[],us=>us=[]
 |d::ds,us=>∃u a,us=u::a/\ one u=true/\ RD F w d u/\ RC F w ds a
def RE(F:Nat->Prop)(w:World)(es:Nat):List D->List Value->Prop
 |[],us=>us=[]
 |d::ds,us=>∃u a,us=u++a/\ u.length=es/\ (match d with| .agg c=>RC F w c u|d=>∃x,u=[x]/\ one x=true/\ RD F w d x)/\ RE F w es ds a
end

structure Wx(K:Nat->Prop)(w w':World):Prop where
 os:w'.os=w.os
 tape:w'.tape=w.tape
 output:w'.output=w.output
 size:w.heap.size<=w'.heap.size
 block:∀k,K k->w'.heap[k]? =w.heap[k]?

theorem Wx.refl(K:Nat->Prop)(w:World):Wx K w w:=⟨rfl,rfl,rfl,Nat.le_refl _,fun _ _=>rfl⟩
theorem Wx.trans{K f:Nat->Prop}{a b c:World}(h:Wx K a b)(d:Wx f b c)(g:∀b,K b->f b):Wx K a c:=
 ⟨d.os.trans h.os,d.tape.trans h.tape,d.output.trans h.output,Nat.le_trans h.size d.size,fun k e=>(d.block k (g k e)).trans (h.block k e)⟩
theorem Wx.mono{K d:Nat->Prop}{a b:World}(h:Wx K a b)(e:∀b,d b->K b):Wx d a b:=
 ⟨h.os,h.tape,h.output,h.size,fun k c=>h.block k (e k c)⟩

mutual
theorem RD.mono{F F':Nat->Prop}{w w':World}(hF:∀b,F b->F' b)(hb:∀b,F b->w'.heap[b]? =w.heap[b]?):∀{d:D}{v:Value},RD F w d v->RD F' w' d v
 | .sc _,_,h=>by unfold RD at h ⊢;exact h
 | .sl es l,v,h=>by
  unfold RD at h ⊢;obtain⟨a,c,e,f,n,g,i⟩:=h;refine⟨a,c,e,f,n,g,?_⟩;rcases i with i|⟨b,k,us,o,m,r,hc,p⟩
  ·exact .inl i
  ·exact .inr ⟨b,k,us,o,hF b m,r,fun j u q=>(World.cell?_of_block (hb b m)).trans (hc j u q),RE.mono hF hb p⟩
 | .agg l,v,h=>by
  unfold RD at h ⊢;obtain⟨cs,e,f⟩:=h;exact⟨cs,e,RC.mono hF hb f⟩
theorem RC.mono{F F':Nat->Prop}{w w':World}(hF:∀b,F b->F' b)(hb:∀b,F b->w'.heap[b]? =w.heap[b]?):∀{l:List D}{us:List Value},RC F w l us->RC F' w' l us
 |[],_,h=>by unfold RC at h ⊢;exact h
 |d::ds,us,h=>by
  unfold RC at h ⊢;obtain⟨u,a,c,e,f,g⟩:=h;exact⟨u,a,c,e,RD.mono hF hb f,RC.mono hF hb g⟩
theorem RE.mono{F F':Nat->Prop}{w w':World}(hF:∀b,F b->F' b)(hb:∀b,F b->w'.heap[b]? =w.heap[b]?){es:Nat}:∀{l:List D}{us:List Value},RE F w es l us->RE F' w' es l us
 |[],_,h=>by unfold RE at h ⊢;exact h
 | .agg c::ds,us,h=>by
  unfold RE at h ⊢;obtain⟨u,a,d,e,f,g⟩:=h;exact⟨u,a,d,e,RC.mono hF hb f,RE.mono hF hb g⟩
 | .sc c::ds,us,h=>by
  unfold RE at h ⊢;obtain⟨u,a,d,e,⟨x,f,g,i⟩,j⟩:=h;exact⟨u,a,d,e,⟨x,f,g,RD.mono hF hb i⟩,RE.mono hF hb j⟩
 | .sl es' c::ds,us,h=>by
  unfold RE at h ⊢;obtain⟨u,a,d,e,⟨x,f,g,i⟩,j⟩:=h;exact⟨u,a,d,e,⟨x,f,g,RD.mono hF hb i⟩,RE.mono hF hb j⟩
end

theorem RE.cons{F:Nat->Prop}{w:World}{es:Nat}{d:D}{ds:List D}{us:List Value}(h:RE F w es (d::ds) us):
  ∃u a,us=u++a/\ u.length=es/\ RC F w d.cells u/\ RE F w es ds a:=by
 cases d with
 |agg c=>
  unfold RE at h;obtain⟨u,a,b,f,g,i⟩:=h;exact⟨u,a,b,f,g,i⟩
 |sc c=>
  unfold RE at h;obtain⟨u,a,b,f,⟨x,g,i,j⟩,k⟩:=h;exact⟨u,a,b,f,by subst g;unfold D.cells;unfold RC;exact⟨x,[],rfl,i,j,by unfold RC;rfl⟩,k⟩
 |sl e c=>
  unfold RE at h;obtain⟨u,a,b,f,⟨x,g,i,j⟩,k⟩:=h;exact⟨u,a,b,f,by subst g;unfold D.cells;unfold RC;exact⟨x,[],rfl,i,j,by unfold RC;rfl⟩,k⟩

theorem RE.mk{F:Nat->Prop}{w:World}{es:Nat}{d:D}{ds:List D}{u us:List Value}(j:u.length=es)(h:RC F w d.cells u)(b:RE F w es ds us):RE F w es (d::ds) (u++us):=by
 cases d with
 |agg c=>unfold RE;exact⟨u,us,rfl,j,h,b⟩
 |sc c=>
  unfold D.cells at h;unfold RC at h;obtain⟨x,k,f,g,i,a⟩:=h;unfold RC at a;subst a;unfold RE;exact⟨u,us,rfl,j,⟨x,f,g,i⟩,b⟩
 |sl e c=>
  unfold D.cells at h;unfold RC at h;obtain⟨x,k,f,g,i,a⟩:=h;unfold RC at a;subst a;unfold RE;exact⟨u,us,rfl,j,⟨x,f,g,i⟩,b⟩

theorem RE.length{F:Nat->Prop}{w:World}{es:Nat}:∀{l:List D}{us:List Value},RE F w es l us->us.length=l.length*es
 |[],us,h=>by unfold RE at h;subst h;simp
 |d::ds,us,h=>by
  obtain⟨u,e,a,b,_,c⟩:=h.cons;have:=RE.length c;subst a;simp only[List.length_append,List.length_cons,Nat.add_mul,b,this];omega

theorem RC.length{F:Nat->Prop}{w:World}:∀{l:List D}{us:List Value},RC F w l us->us.length=l.length
 |[],us,h=>by unfold RC at h;subst h;rfl
 |d::ds,us,h=>by
  unfold RC at h;obtain⟨u,b,rfl,_,_,a⟩:=h;simp[RC.length a]

theorem RE.app{F:Nat->Prop}{w:World}{es:Nat}:∀{l l':List D}{us a:List Value},RE F w es l us->RE F w es l' a->RE F w es (l++l') (us++a)
 |[],_,us,_,h,b=>by unfold RE at h;subst h;exact b
 |d::ds,l',us,a,h,b=>by
  obtain⟨u,i,c,e,f,g⟩:=h.cons;subst c;rw[List.append_assoc,List.cons_append];exact RE.mk e f (RE.app g b)

theorem RE.at{F:Nat->Prop}{w:World}{es:Nat}:∀{l:List D}{us:List Value}(k:Nat)(d:D),RE F w es l us->l[k]? =some d->
  RC F w d.cells ((us.drop (k*es)).take es)/\ ((us.drop (k*es)).take es).length=es
 |[],_,k,d,_,a=>by simp at a
 |d0::ds,us,0,d,h,a=>by
  obtain⟨u,f,b,c,g,i⟩:=h.cons;simp at a;subst a;subst b;subst c;simp[g]
 |d0::ds,us,k+1,d,h,a=>by
  obtain⟨u,f,b,c,g,i⟩:=h.cons;have:=RE.at (l:=ds) k d i (by simpa using a);subst b;have e:(k+1)*es=u.length+k*es:=by rw[Nat.add_mul,c];omega
  rw[e,<-List.drop_drop,List.drop_left];exact this

theorem RE.set{F:Nat->Prop}{w:World}{es:Nat}:∀{l:List D}{us:List Value}(k:Nat)(d:D)(u:List Value),RE F w es l us->k<l.length->RC F w d.cells u->u.length=es->
  RE F w es (l.set k d) (us.take (k*es)++u++us.drop (k*es+es))
 |[],_,k,_,_,_,c,_,_=>by simp at c
 |d0::ds,us,0,d,u,h,c,hc,j=>by
  obtain⟨f,a,g,b,m,i⟩:=h.cons;subst g;have e:(f++a).drop (0*es+es)=a:=by rw[Nat.zero_mul,Nat.zero_add,<-b,List.drop_left]
  rw[e];simp only[Nat.zero_mul,List.take_zero,List.nil_append,List.set_cons_zero];exact RE.mk j hc i
 |d0::ds,us,k+1,d,u,h,c,hc,j=>by
  obtain⟨f,a,g,b,m,i⟩:=h.cons;have n:=RE.set (l:=ds) k d u i (by simpa using c) hc j;subst g;have e:(k+1)*es=f.length+k*es:=by rw[Nat.add_mul,b];omega
  have o:(k+1)*es+es=f.length+(k*es+es):=by omega
  rw[o,e,List.take_length_add_append,List.drop_length_add_append,List.append_assoc,List.append_assoc,List.set_cons_succ];rw[List.append_assoc]at n;exact RE.mk b m n

inductive AV where
 |dat (d:D)
 |own (o:Nat)                    -- the slice over the whole of object 'o' (an array of the call's own)
 |ref (o:Nat) (i:Nat)          -- a pointer to cell i of object 'o'
 |eref (o:Nat) (es k j:Nat)    -- a pointer to cell j of element k of the array 'o'
 |row (o g k j:Nat)              -- the slice in cell j of element k of the table 'o', whose rows lie as 'g' says
 |rref (o g k j es i c:Nat)      -- a pointer to cell c of element i of that row
 |vw (o g k j es lo n:Nat)       -- a part of that row: n elements from lo on
 |fp (l:List D)                  -- a pointer into frozen memory: the cells from there on
 |aggv (l:List AV)
 |tup (l:List AV)
 |fn (f:Nat) (l:List AV)
 |und
 |unk

inductive Obj' where
 |box (T:TypeId) (l:List AV)
 |arr (e:TypeId) (es:Nat) (l:List D)
 |bld (T E:TypeId) (l:List UInt8) (g:Nat)
 |mp (t:TypeId) (l:List ((Int×Int)×D))
 |tab (e:TypeId) (es:Nat) (mask:List (Option TypeId)) (l:List D) (g:Nat) (hole:Option (Nat×Nat))

structure KV where
 v:Value
 r:Nat->Nat->Value
instance:Coe KV Value:=⟨KV.v⟩
abbrev Kap:=Nat->KV

mutual
def RV(κ:Kap)(F:Nat->Prop)(w:World):AV->Value->Prop
 | .dat d,v=>RD F w d v
 | .own o,v=>v=(κ o).v/\ one v=true
 | .ref o i,v=>∃b,(κ o).v=.pointer (some ⟨b,0,none⟩)/\ v=.pointer (some ⟨b,i,none⟩)
 | .eref o es k j,v=>∃b f n e,(κ o).v=.slice (some ⟨b,f,none⟩) n e/\ v=.pointer (some ⟨b,f+(k*es+j),none⟩)
 | .row _ g k j,v=>v=(κ g).r k j/\ one v=true
 | .rref _ g k j es i c,v=>∃b f n e,(κ g).r k j=.slice (some ⟨b,f,none⟩) n e/\ v=.pointer (some ⟨b,f+(i*es+c),none⟩)
 | .vw _ g k j es lo n,v=>∃a m e,(κ g).r k j=.slice a m e/\ m<=e/\ lo+n<=m/\ (n=0 \/∃b f,a=some ⟨b,f,none⟩)/\ v=.slice (if e=lo then a else a.map (·.add (lo*es))) n (e-lo)
 | .fp ds,v=>∃b h us,v=.pointer (some ⟨b,h,none⟩)/\ F b/\ (∀j u,us[j]? =some u->w.cell? ⟨b,h+j,none⟩=some u)/\ RC F w ds us
 | .aggv l,v=>∃cs:List Value,v=.agg cs.toArray/\ RVc κ F w l cs
 | .tup l,v=>∃cs:List Value,v=.tuple cs.toArray/\ RVs κ F w l cs
 | .fn f l,v=>∃cs:List Value,v=.func (.func f) #[] cs.toArray/\ RVs κ F w l cs
 | .und,v=>v=undef
 | .unk,_=>True
def RVs(κ:Kap)(F:Nat->Prop)(w:World):List AV->List Value->Prop
 |[],us=>us=[]
 |d::ds,us=>∃u a,us=u::a/\ RV κ F w d u/\ RVs κ F w ds a
def RVc(κ:Kap)(F:Nat->Prop)(w:World):List AV->List Value->Prop
 |[],us=>us=[]
 |d::ds,us=>∃u a,us=u::a/\ one u=true/\ RV κ F w d u/\ RVc κ F w ds a
end

mutual
def NB(U:Nat->Prop):AV->Prop
 | .own o| .ref o _| .eref o _ _ _=>U o
 | .row o g _ _| .rref o g _ _ _ _ _| .vw o g _ _ _ _ _=>U o/\ U g
 | .aggv l| .tup l| .fn _ l=>NBs U l
 |_=>True
def NBs(U:Nat->Prop):List AV->Prop
 |[]=>True
 |x::l=>NB U x/\ NBs U l
end

mutual
theorem NB.mono{U U':Nat->Prop}(h:∀o,U o->U' o):∀{x:AV},NB U x->NB U' x
 | .dat _,a=>by unfold NB;trivial
 | .own o,a=>by unfold NB at a ⊢;exact h o a
 | .ref o _,a=>by unfold NB at a ⊢;exact h o a
 | .eref o _ _ _,a=>by unfold NB at a ⊢;exact h o a
 | .row o g _ _,a=>by unfold NB at a ⊢;exact⟨h o a.1,h g a.2⟩
 | .rref o g _ _ _ _ _,a=>by unfold NB at a ⊢;exact⟨h o a.1,h g a.2⟩
 | .vw o g _ _ _ _ _,a=>by unfold NB at a ⊢;exact⟨h o a.1,h g a.2⟩
 | .fp _,a=>by unfold NB;trivial
 | .aggv l,a=>by unfold NB at a ⊢;exact NBs.mono h a
 | .tup l,a=>by unfold NB at a ⊢;exact NBs.mono h a
 | .fn _ l,a=>by unfold NB at a ⊢;exact NBs.mono h a
 | .und,a=>by unfold NB;trivial
 | .unk,a=>by unfold NB;trivial
theorem NBs.mono{U U':Nat->Prop}(h:∀o,U o->U' o):∀{l:List AV},NBs U l->NBs U' l
 |[],_=>by unfold NBs;trivial
 |x::l,a=>by unfold NBs at a ⊢;exact⟨NB.mono h a.1,NBs.mono h a.2⟩
end

mutual
theorem RV.mono{κ κ':Kap}{F F':Nat->Prop}{w w':World}{U:Nat->Prop}(e:∀o,U o->κ' o=κ o)(hF:∀b,F b->F' b)(hb:∀b,F b->w'.heap[b]? =w.heap[b]?):
  ∀{x:AV}{v:Value},NB U x->RV κ F w x v->RV κ' F' w' x v
 | .dat d,v,_,h=>by unfold RV at h ⊢;exact RD.mono hF hb h
 | .own o,v,a,h=>by unfold NB at a;unfold RV at h ⊢;rw[e o a];exact h
 | .ref o i,v,a,h=>by unfold NB at a;unfold RV at h ⊢;rw[e o a];exact h
 | .eref o es k j,v,a,h=>by unfold NB at a;unfold RV at h ⊢;rw[e o a];exact h
 | .row o g k j,v,a,h=>by unfold NB at a;unfold RV at h ⊢;rw[e g a.2];exact h
 | .rref o g k j es i c,v,a,h=>by unfold NB at a;unfold RV at h ⊢;rw[e g a.2];exact h
 | .vw o g k j es lo n,v,a,h=>by unfold NB at a;unfold RV at h ⊢;rw[e g a.2];exact h
 | .fp ds,v,_,h=>by
  unfold RV at h ⊢;obtain⟨b,q,us,p,m,r,s⟩:=h;exact⟨b,q,us,p,hF b m,fun j u t=>(World.cell?_of_block (hb b m)).trans (r j u t),RC.mono hF hb s⟩
 | .aggv l,v,a,h=>by
  unfold NB at a;unfold RV at h ⊢;obtain⟨cs,p,m⟩:=h;exact⟨cs,p,RVc.mono e hF hb a m⟩
 | .tup l,v,a,h=>by
  unfold NB at a;unfold RV at h ⊢;obtain⟨cs,p,m⟩:=h;exact⟨cs,p,RVs.mono e hF hb a m⟩
 | .fn f l,v,a,h=>by
  unfold NB at a;unfold RV at h ⊢;obtain⟨cs,p,m⟩:=h;exact⟨cs,p,RVs.mono e hF hb a m⟩
 | .und,v,_,h=>by unfold RV at h ⊢;exact h
 | .unk,v,_,h=>by unfold RV;trivial
theorem RVs.mono{κ κ':Kap}{F F':Nat->Prop}{w w':World}{U:Nat->Prop}(e:∀o,U o->κ' o=κ o)(hF:∀b,F b->F' b)(hb:∀b,F b->w'.heap[b]? =w.heap[b]?):
  ∀{l:List AV}{us:List Value},NBs U l->RVs κ F w l us->RVs κ' F' w' l us
 |[],_,_,h=>by unfold RVs at h ⊢;exact h
 |d::ds,us,a,h=>by
  unfold NBs at a;unfold RVs at h ⊢;obtain⟨u,c,f,g,i⟩:=h;exact⟨u,c,f,RV.mono e hF hb a.1 g,RVs.mono e hF hb a.2 i⟩
theorem RVc.mono{κ κ':Kap}{F F':Nat->Prop}{w w':World}{U:Nat->Prop}(e:∀o,U o->κ' o=κ o)(hF:∀b,F b->F' b)(hb:∀b,F b->w'.heap[b]? =w.heap[b]?):
  ∀{l:List AV}{us:List Value},NBs U l->RVc κ F w l us->RVc κ' F' w' l us
 |[],_,_,h=>by unfold RVc at h ⊢;exact h
 |d::ds,us,a,h=>by
  unfold NBs at a;unfold RVc at h ⊢;obtain⟨u,c,f,g,i,j⟩:=h;exact⟨u,c,f,g,RV.mono e hF hb a.1 i,RVc.mono e hF hb a.2 j⟩
end

end Go.Ab
