/- My own layer: maps whose keys are pairs of integers: made, looked into, written. -/
import Derived.Test.YtimecodbnhcnoaaGreatAbSound6
import Derived.MapKept
namespace Go.Ab
set_option linter.unusedVariables false
set_option linter.unusedSimpArgs false
section
variable{P:Program}{cx:Cx}{κ:Kap}{F:Nat->Prop}{w:World}{U:Nat->Prop}{nm:Nat}{σ:Objs}{ty:TypeId->Option TyE}{Γ:Nat->Option FnSpec}

theorem ji7(a:∀t x,ty t=some x->TyOK P t x){t:TypeId}{E:TyE}(h:jqd ty t=some E):
  ∃k i el,P.underlying t=some (.map k el)/\ P.underlying k=some (.array 2 i)/\ P.underlying i=some (.int .i64)/\ (∀w:World,(sizeOf i).run P w=.ok 1 w)/\ TyOK P el E:=by
 unfold jqd at h;split at h
 ·rename_i k el _ _ _ _ c;split at h
  ·rename_i i _ _ _ _ d;split at h
   ·rename_i _ _ _ e;have b:=a _ _ e;exact⟨k,i,el,(a _ _ c).1,(a _ _ d).1,b.1,fun w=>jar b,a _ _ h⟩
   ·cases h
  ·cases h
 ·cases h

abbrev jf8(k:Int×Int):Value:=.agg #[.int .i64 k.1,.int .i64 k.2]
theorem jnc{x:AV}{k:Int×Int}{v:Value}(h:jr5 x=some k)(c:RV κ F w x v):v=jf8 k:=by
 unfold jr5 at h;split at h
 ·cases h;unfold RV RD at c;obtain⟨cs,rfl,hc⟩:=c;unfold RC at hc;obtain⟨u,us,rfl,_,a,hc⟩:=hc;unfold RC at hc;obtain⟨e,d,rfl,_,b,hc⟩:=hc;unfold RC at hc;subst hc;unfold RD at a b;rw[a.1,b.1]
 ·cases h

theorem jla{i:TypeId}(hi:P.underlying i=some (.int .i64))(a b:Int)(j:Nat)(v:Value)(c:(#[Value.int .i64 a,.int .i64 b])[j]? =some v):(part i #[.int .i64 a,.int .i64 b] j).run P w=.ok v w:=by
 simp[Go.part,isAgg,run_underlying hi,c]
theorem jfy{k i:TypeId}(empty:Bool)(c:P.underlying k=some (.array 2 i))(hi:P.underlying i=some (.int .i64))(hs:(sizeOf i).run P w=.ok 1 w)(q:Int×Int):
  (Instr.checkKey empty 10000 k (jf8 q)).run P w=.ok () w:=by
 have a:∀(n:Nat)(v:Int),(Instr.checkKey empty (n+1) i (.int .i64 v)).run P w=.ok () w:=fun n v=>by
  simp[Instr.checkKey,run_underlying hi]
 have d:=jla (P:=P) (w:=w) hi q.1 q.2 0 _ rfl;have e:=jla (P:=P) (w:=w) hi q.1 q.2 1 _ rfl;obtain⟨m,b⟩:∃m:Nat,m=9998+1:=⟨_,rfl⟩;replace a:∀v:Int,(Instr.checkKey empty m i (.int .i64 v)).run P w=.ok () w:=fun v=>by rw[b];exact a 9998 v
 rw[show(10000:Nat)=m+1 by omega];clear b;simp only[Instr.checkKey,Sem.run_bind,run_underlying c,Result.andThen_ok,Std.Legacy.Range.forIn_eq_forIn_range',Std.Legacy.Range.size,Nat.sub_zero,Nat.add_sub_cancel,Nat.div_one];simp[List.range',hs,d,e,a]

theorem jt3{k i:TypeId}(c:P.underlying k=some (.array 2 i))(hi:P.underlying i=some (.int .i64))(hs:(sizeOf i).run P w=.ok 1 w)(q r:Int×Int):
  (Op.equal k (jf8 q) (jf8 r)).run P w=.ok (decide (r=q)) w:=by
 have a:∀q:Int×Int,RC (fun _=>False) w [.sc (.int .i64 q.1),.sc (.int .i64 q.2)] [.int .i64 q.1,.int .i64 q.2]:=fun q=>jgk (l:=[.int .i64 q.1,.int .i64 q.2]) rfl;have:=jee (P:=P) (w:=w) c hi hs (a q) (a r) rfl 9998 (b:=q.1==r.1&&(q.2==r.2&&true)) (by simp[eqA]);have e:(q.1==r.1&&(q.2==r.2&&true))=decide (r=q):=by
  rw[Bool.eq_iff_iff];simp only[Bool.and_true,Bool.and_eq_true,beq_iff_eq,decide_eq_true_eq,Prod.ext_iff];exact⟨fun h=>⟨h.1.symm,h.2.symm⟩,fun h=>⟨h.1.symm,h.2.symm⟩⟩
 rw[e]at this;exact this

def je9(k:Int×Int):List ((Int×Int)×D)->List MapEntry->Nat->Option (Nat×Value)
 |(k',_)::l,e::es,i=>if k'=k then some (i,e.val)else je9 k l es (i+1)
 |_,_,_=>none
theorem jfv{k i:TypeId}(a:P.underlying k=some (.array 2 i))(hi:P.underlying i=some (.int .i64))(hs:(sizeOf i).run P w=.ok 1 w)(q:Int×Int):
  ∀(l:List ((Int×Int)×D))(es:List MapEntry)(n:Nat),MR w l es->(Instr.findAsking k (jf8 q) es n).run P w=.ok (je9 q l es n) w
 |[],es,n,h=>by
  have h:es=[]:=h;subst h;simp[Instr.findAsking,je9]
 |(k',d)::l,es,n,h=>by
  obtain⟨e,es',rfl,c,_,f⟩:=h;unfold Instr.findAsking je9;simp only[Sem.run_bind,c,jt3 a hi hs q k',Result.andThen_ok];by_cases b:k'=q
  ·simp[b]
  ·simp[b,jfv a hi hs q l es' (n+1) f]
theorem jjc{k i:TypeId}(a:P.underlying k=some (.array 2 i))(hi:P.underlying i=some (.int .i64))(hs:(sizeOf i).run P w=.ok 1 w)(q:Int×Int)
  (l:List ((Int×Int)×D)) (es:List MapEntry) (h:MR w l es):(Instr.findKey k (jf8 q) es).run P w=.ok (je9 q l es 0) w:=by
 unfold Instr.findKey;simp only[Sem.run_bind,run_underlying a,Result.andThen_ok];cases es with
 |nil=>
  cases l with
  |nil=>simp[Instr.findNow,je9]
  |cons p l=>obtain⟨_,_,h,_⟩:=h;cases h
 |cons e es=>
  have:Instr.findNow (.array 2 i) (jf8 q) (e::es) 0=none:=by simp[Instr.findNow,Instr.sameNow]
  simp only[this];exact jfv a hi hs q l _ 0 h

theorem jlu{z:D}{q:Int×Int}{g:Value}(f:∀F:Nat->Prop,RD F w z g):∀{l:List ((Int×Int)×D)}{es:List MapEntry}(n:Nat),MR w l es->
  (match je9 q l es n with
  |some (_,v)=>RD (fun _=>False) w (getM z q l).1 v/\ (getM z q l).2=true
  |none=>getM z q l=(z,false))
 |[],es,n,h=>by
  have h:es=[]:=h;subst h;simp[je9,getM]
 |(k',d)::l,es,n,h=>by
  obtain⟨e,es',rfl,i,b,c⟩:=h;unfold je9 getM;by_cases a:k'=q
  ·simp only[if_pos a];exact⟨b,trivial⟩
  ·simp only[if_neg a];exact jlu f (n+1) c

theorem jlt{q:Int×Int}{d:D}{v:Value}(hd:RD (fun _=>False) w d v){w':World}:∀{l:List ((Int×Int)×D)}{es:List MapEntry}(n:Nat),MR w l es->
  (match je9 q l es n with
  |some (j,_)=>n<=j/\ (∃e,es[j-n]? =some e/\ e.key=jf8 q)/\ MR w' (putM q d l) (es.modify (j-n) fun e=>{e with key:=jf8 q,val:=v})
  |none=>∀c,MR w' (putM q d l) (es++[{key:=jf8 q,val:=v,born:=c}]))
 |[],es,n,h=>by
  have h:es=[]:=h;subst h;simp only[je9,putM];exact fun c=>⟨_,_,rfl,rfl,RD.mono (fun _ h=>h) (fun _ h=>h.elim) hd,rfl⟩
 |(k',d')::l,es,n,h=>by
  obtain⟨e,es',rfl,b,i,k⟩:=h;unfold je9 putM;by_cases f:k'=q
  ·simp only[if_pos f];refine⟨Nat.le_refl _,⟨e,by simp,by rw[b,f]⟩,?_⟩;rw[Nat.sub_self];exact⟨_,es',rfl,rfl,RD.mono (fun _ h=>h) (fun _ h=>h.elim) hd,k.mono⟩
  ·simp only[if_neg f];have a:=jlt (q:=q) hd (w':=w') (n+1) k;cases m:je9 q l es' (n+1)with
   |none=>
    rw[m]at a;exact fun c=>⟨e,_,rfl,b,RD.mono (fun _ h=>h) (fun _ h=>h.elim) i,a c⟩
   |some p=>
    obtain⟨j,u⟩:=p;rw[m]at a;obtain⟨t,⟨e0,o,r⟩,s⟩:=a;have g:j-n=(j-(n+1))+1:=by omega
    refine⟨by omega,⟨e0,by rw[g];simpa using o,r⟩,?_⟩;rw[g];exact⟨e,_,rfl,b,RD.mono (fun _ h=>h) (fun _ h=>h.elim) i,s⟩

theorem jut{d:D}{v:Value}(a:flB d=true)(h:RD F w d v):RD (fun _=>False) w d v:=by
 have b:∀{d:D}{v:Value},scB d=true->RD F w d v->RD (fun _=>False) w d v:=by
  intro d v hd h;cases d with
  |sc u=>unfold RD at h ⊢;exact h
  |_=>cases hd
 cases d with
 |sc u=>exact b rfl h
 |sl es l=>cases a
 |agg l=>
  unfold RD at h ⊢;obtain⟨cs,e,c⟩:=h;refine⟨cs,e,?_⟩;replace a:l.all scB=true:=a;clear e;revert a
  induction l generalizing cs with
  |nil=>intro _;unfold RC at c ⊢;exact c
  |cons x l f=>
   intro a;simp only[List.all_cons,Bool.and_eq_true]at a;unfold RC at c ⊢;obtain⟨u,us,rfl,g,i,j⟩:=c;exact⟨u,us,rfl,g,b a.1 i,f us j a.2⟩

theorem jq8{v:Value}{z:D}(h:(jcu v).toD=some z)(F:Nat->Prop):RD F w z v:=by
 cases v
 case agg cs=>
  simp only[jcu]at h;split at h
  ·rename_i a;simp only[AV.toD,Option.some.injEq]at h;subst h;unfold RD;exact⟨cs.toList,rfl,jgk a⟩
  ·cases h
 all_goals (simp only[jcu,AV.toD]at h;first|(simp only[Option.some.injEq]at h;subst h;unfold RD;exact⟨rfl,rfl⟩)|cases h)
theorem jhp{x:AV}{o:Nat}{t:TypeId}{l:List ((Int×Int)×D)}(h:mpAt σ x=some (o,t,l)):x=.own o/\ σ o=some (.mp t l):=by
 unfold mpAt at h;split at h
 ·split at h
  ·rename_i a;cases h;exact⟨rfl,a⟩
  ·cases h
 ·cases h

theorem jjv(h:ORel cx κ F w U σ)(c:¬U nm){o:Oper}{ρ:Operand->Value}{t:TypeId}(e:o.op=.makeMap t none):
  ja4 P cx κ F w U nm σ o ρ (jdc ty nm t):=by
 unfold jdc;split
 ·intro _;have d:(w.alloc (.map #[] 0)).heap[w.heap.size]? =some (.map #[] 0):=(MapKept.heap_alloc w _).1;refine jam (v:=.map (some w.heap.size)) (w':=w.alloc (.map #[] 0)) ?_ (jkv (κ':=fun n=>if n=nm then kv (.map (some w.heap.size))else κ n) (jn4 h c (x:=.mp t []) (v:=kv (.map (some w.heap.size))) ?_ ?_ trivial) ?_ (jb3 _ jbl))
  ·unfold execOp;simp only[e];exact jbk _ rfl
  ·intro κ' b a hb;exact jj6 (x:=.mp t []) (by intros;simp) (by intros;simp) rfl a hb
  ·intro κ' a _;show jia _ (κ' nm).v [];rw[a];exact⟨_, #[],0,rfl,d,rfl⟩
  ·unfold RV;exact⟨by simp,rfl⟩
 ·intro f;exact f.elim

theorem jky(B:∀t x,ty t=some x->TyOK P t x)(h:ORel cx κ F w U σ){o:Oper}{ρ:Operand->Value}{e:Operand->AV}(D:∀x,RV κ F w (e x) (ρ x)){t:TypeId}{x i:Operand}(L:o.op=.lookup t x i true):
  ja4 P cx κ F w U nm σ o ρ (jc4 ty σ t (e x) (e i)):=by
 unfold jc4;split
 ·rename_i E ob W l k K N hi;split
  ·rename_i z O;intro _;obtain⟨V,it,el,T,H,I,J,g⟩:=ji7 B K;obtain⟨r,Q⟩:=jhp N;have C:=D x;rw[r]at C;unfold RV at C;obtain⟨b,es,m,R,S,G⟩:=(show jia w (κ ob).v l from h.ok ob _ Q);have u:=jnc hi (D i);have f:=fun F=>jq8 (w:=w) O F;have a:=jlu (q:=k) f 0 G;have s:=jjc (P:=P) H I (J w) k l es.toList G;have n:=jfy (P:=P) (w:=w) es.isEmpty H I (J w) k;have d:∃v,(Instr.lookup t (ρ x) (ρ i) true).run P w=.ok (.tuple #[v,.bool (getM z k l).2]) w/\ RD F w (getM z k l).1 v:=by
    rw[C.1,R,u];unfold Instr.lookup;simp only[Sem.run_bind,run_underlying T,Result.andThen_ok,MapKept.run_getObj_map S,Sem.run_pure,n,s];cases c:je9 k l es.toList 0 with
    |none=>
     rw[c]at a;simp only[]at a;refine⟨E.zero,?_,?_⟩
     ·simp only[Sem.run_bind,jdr g,Result.andThen_ok,Sem.run_pure,a];simp
     ·rw[a];exact f F
    |some p=>
     obtain⟨j,v⟩:=p;rw[c]at a;simp only[]at a;refine⟨v,?_,RD.mono (fun _ h=>h.elim) (fun _ h=>h.elim) a.1⟩;simp only[a.2];simp
   obtain⟨v,M,A⟩:=d;refine jam (v:=.tuple #[v,.bool (getM z k l).2]) (w':=w) ?_ (jat h ?_ ?_)
   ·unfold execOp;simp only[L];exact jbk _ M
   ·unfold RV;refine⟨[v,.bool (getM z k l).2],rfl,?_⟩;unfold RVs;refine⟨_,_,rfl,by unfold RV;exact A,?_⟩;unfold RVs;refine⟨_,_,rfl,by unfold RV RD;exact⟨rfl,rfl⟩,?_⟩;unfold RVs;rfl
   ·unfold NB NBs;exact⟨by unfold NB;trivial,by unfold NBs;exact⟨by unfold NB;trivial,by unfold NBs;trivial⟩⟩
  ·intro y;exact y.elim
 ·intro y;exact y.elim

theorem jkx(N:∀t x,ty t=some x->TyOK P t x)(h:ORel cx κ F w U σ){o:Oper}{ρ:Operand->Value}{e:Operand->AV}(D:∀x,RV κ F w (e x) (ρ x)){t:TypeId}{x i v:Operand}(ho:o.op=.mapUpdate t x i v):
  ja4 P cx κ F w U nm σ o ρ (jc3 ty σ t (e x) (e i) (e v)):=by
 unfold jc3;split
 ·rename_i E ob t' l k d Z hx hi hd;split
  ·rename_i I;intro _;obtain⟨kt,it,el,u1,T,V,W,S⟩:=ji7 N Z;obtain⟨G,Q⟩:=jhp hx;have O:=D x;rw[G]at O;unfold RV at O;obtain⟨b,es,c,y,z,R⟩:=(show jia w (κ ob).v l from h.ok ob _ Q);have J:=jnc hi (D i);have m:=D v;rw[hd]at m;unfold RV at m;have C:=jut I m;have H:=jjc (P:=P) T V (W w) k l es.toList R;have B:=jfy (P:=P) (w:=w) false T V (W w) k;have f:=fun w':World=>jlt (q:=k) C (w':=w') 0 R;have r:∀g,Blk κ ob (.mp t' l) g↔g=b:=by
    intro g;constructor
    ·rintro(h1|h1)
     ·rw[y]at h1;simp[blk]at h1;exact h1.symm
     ·exact h1.elim
    ·rintro rfl;exact .inl (by rw[y];rfl)
   have K:b<w.heap.size:=je7 z;have u:∃es' a,(Instr.mapUpdate t (ρ x) (ρ i) (ρ v)).run P w=.ok () {w with heap:=w.heap.setIfInBounds b (.map es' a)}/\ ∀w',MR w' (putM k d l) es'.toList:=by
    rw[O.1,y,J];unfold Instr.mapUpdate;simp only[Sem.run_bind,run_underlying u1,Result.andThen_ok,MapKept.run_getObj_map z,B,H];cases s:je9 k l es.toList 0 with
    |none=>
     simp only[s]at f;refine⟨_,_,by simp only[MapKept.run_setObj_map _ z];rfl,fun w'=>?_⟩;have:=f w' c;simpa using this
    |some p=>
     obtain⟨j,v0⟩:=p;simp only[s,Nat.sub_zero]at f;obtain⟨_,⟨e0,X,Y⟩,_⟩:=f w;have A:es[j]? =some e0:=by simpa using X
     have n:Instr.sameBits 10000 (jf8 k) (jf8 k)=true:=by
      simp[Instr.sameBits]
     refine⟨es.modify j fun e=>{e with key:=jf8 k,val:=ρ v},c,?_,fun w'=>?_⟩
     ·simp only[A,Option.map_some,Option.getD_some,Y,Instr.keyThatStays,n,if_true,Sem.run_bind,Sem.run_pure,Result.andThen_ok,MapKept.run_setObj_map _ z]
     ·have:=(f w').2.2;simpa using this
   obtain⟨es',a,hr,L⟩:=u;refine jfo (w':={w with heap:=w.heap.setIfInBounds b (.map es' a)}) ?_ ⟨_,_,κ,F,⟨rfl,rfl⟩,jf0 h Q rfl rfl rfl (by simp) ?_ ?_ ?_ trivial,by unfold RV;rfl,by unfold NB;trivial⟩
   ·unfold execOp;simp only[ho];exact js1 _ hr
   ·intro g hb' M;have:b≠g:=fun e=>M ((r g).2 e.symm);simp[this]
   ·intro g hb';rcases hb' with hb'|hb'
    ·exact .inl hb'
    ·exact hb'.elim
   ·show jia _ (κ ob).v _;exact⟨b,es',a,y,by simp[K],L _⟩
  ·intro f;exact f.elim
 ·intro f;exact f.elim
end
end Go.Ab
