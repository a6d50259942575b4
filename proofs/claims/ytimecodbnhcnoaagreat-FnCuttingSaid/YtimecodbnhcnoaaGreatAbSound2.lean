/- My own layer, fifth part: the operations one by one. -/
import Derived.Test.YtimecodbnhcnoaaGreatAbSound1
import Derived.Laws.StructEq
namespace Go.Ab
set_option linter.unusedVariables false
set_option linter.unusedSimpArgs false
section
variable{P:Program}{cx:Cx}{κ:Kap}{F:Nat->Prop}{w:World}{U:Nat->Prop}{nm:Nat}{σ:Objs}{ty:TypeId->Option TyE}{Γ:Nat->Option FnSpec}

def ja4(P:Program)(cx:Cx)(κ:Kap)(F:Nat->Prop)(w:World)(U:Nat->Prop)(nm:Nat)(σ:Objs)(o:Oper)(ρ:Operand->Value)(s:Spec):Prop:=
 s.pre->Out P o ρ w (SR cx κ F w U nm σ s)

theorem jar{t:TypeId}{x:TyE}(h:TyOK P t x):(sizeOf t).run P w=.ok x.size w:=by
 obtain⟨_,i,a,b,c,d,_⟩:=h;simp[sizeOf,typeInfo,a,b]
theorem jdr{t:TypeId}{x:TyE}(h:TyOK P t x):(zeroValue t).run P w=.ok x.zero w:=by
 obtain⟨_,i,a,c,d,b,_⟩:=h;simp[zeroValue,typeInfo,a,b]
theorem jbm{t:TypeId}{x:TyE}(h:TyOK P t x):(isAgg t).run P w=.ok x.isAgg w:=by
 obtain⟨h0,_⟩:=h;simp only[isAgg,Sem.run_bind,run_underlying h0,Result.andThen_ok];unfold TyE.isAgg;cases x.desc<;>rfl

theorem jcq(e:TypeId)(c:Array Value):(newRow e c).run P w=.ok ⟨w.heap.size,0,none⟩ (w.alloc (.cells c e)):=by
 simp[newRow,newObj,Sem.run]

theorem jm0{l:List Value}(h:l.all one=true):RVc κ F w (l.map fun v=>.dat (.sc v)) l:=by
 have:=jn7 (κ:=κ) (jgk (F:=F) (w:=w) h)
 rwa [List.map_map]at this

theorem ji1{l:List Value}:NBs U (l.map fun v=>AV.dat (.sc v)):=by
 have:=jkk (U:=U) (l:=l.map .sc)
 rwa [List.map_map]at this

theorem jp6(h:ORel cx κ F w U σ)(i:¬U nm){cs:List AV}{c:Array Value}{e:TypeId}(hc:RVc κ F w cs c.toList)(d:NBs U cs){p:Prop}{rd:List Nat}:
  SR cx κ F w U nm σ (.det p rd (.ref nm 0) [(nm,some (.box e cs))]) (.pointer (some ⟨w.heap.size,0,none⟩)) (w.alloc (.cells c e)):=by
 have a:∀b,F b->(w.alloc (.cells c e)).heap[b]? =w.heap[b]?:=fun b hb=>Go.RowKit.Below.heap_alloc w _ b (h.fG b hb).2;refine jkv (jmz h i (x:=.box e cs) (v:=kv (.pointer (some ⟨w.heap.size,0,none⟩))) (fun κ' b e hb=>jj6 (by intros;simp) (by intros;simp) rfl e hb) ?_ d) ?_ (jpt _ _ jbl)
 ·intro κ' f g;exact⟨w.heap.size,c,by rw[f],heap_alloc_new w _,RVc.mono g (fun _ hb=>hb) a d hc⟩
 ·unfold RV;exact⟨w.heap.size,by simp,rfl⟩

theorem jp7(h:ORel cx κ F w U σ)(i:¬U nm){ds:List D}{c:Array Value}{e eb:TypeId}{es:Nat}(hc:RE F w es ds c.toList)(d:0<es)(j:ds.length<=maxLen){p:Prop}{rd:List Nat}:
  SR cx κ F w U nm σ (.det p rd (.own nm) [(nm,some (.arr e es ds))]) (.slice (some ⟨w.heap.size,0,none⟩) ds.length ds.length) (w.alloc (.cells c eb)):=by
 have a:∀b,F b->(w.alloc (.cells c eb)).heap[b]? =w.heap[b]?:=fun b hb=>Go.RowKit.Below.heap_alloc w _ b (h.fG b hb).2;refine jkv (jmz h i (x:=.arr e es ds) (v:=kv (.slice (some ⟨w.heap.size,0,none⟩) ds.length ds.length)) (fun κ' b e hb=>jj6 (by intros;simp) (by intros;simp) rfl e hb) ?_ trivial) ?_ (jb3 _ jbl)
 ·intro κ' g k;have f:=hc.length;refine⟨c.toList,⟨f,.inr ⟨w.heap.size,0,ds.length,c,by rw[g],⟨_,_,heap_alloc_new w _,.inl rfl⟩,Nat.le_refl _,j,by rw[<-Array.length_toList,f];omega,?_⟩⟩,RE.mono (fun _ hb=>hb) a hc,d⟩;rw[List.drop_zero];exact List.take_of_length_le (by omega)
 ·unfold RV;exact⟨by simp,rfl⟩

theorem jr7(h:ORel cx κ F w U σ)(i:¬U nm){ds:List D}{c:Array Value}{e eb:TypeId}{es:Nat}(hc:RE F w es ds c.toList)(d:0<es)(j:ds.length<=maxLen){p:Prop}{rd:List Nat}:
  SR cx κ F w U nm σ (.det p rd (.eref nm es 0 0) [(nm,some (.arr e es ds))]) (.pointer (some ⟨w.heap.size,0,none⟩)) (w.alloc (.cells c eb)):=by
 have a:∀b,F b->(w.alloc (.cells c eb)).heap[b]? =w.heap[b]?:=fun b hb=>Go.RowKit.Below.heap_alloc w _ b (h.fG b hb).2;refine jkv (jmz h i (x:=.arr e es ds) (v:=kv (.slice (some ⟨w.heap.size,0,none⟩) ds.length ds.length)) (fun κ' b e hb=>jj6 (by intros;simp) (by intros;simp) rfl e hb) ?_ trivial) ?_ (by unfold NB;exact jbl)
 ·intro κ' g k;have f:=hc.length;refine⟨c.toList,⟨f,.inr ⟨w.heap.size,0,ds.length,c,by rw[g],⟨_,_,heap_alloc_new w _,.inl rfl⟩,Nat.le_refl _,j,by rw[<-Array.length_toList,f];omega,?_⟩⟩,RE.mono (fun _ hb=>hb) a hc,d⟩;rw[List.drop_zero];exact List.take_of_length_le (by omega)
 ·unfold RV;exact⟨w.heap.size,0,ds.length,ds.length,by simp,by simp⟩

theorem jnv{agg:Bool}{es:Nat}:∀{n:Nat}{l:List Value}{ds:List D},jje agg es n l=some ds->RE F w es ds l/\ ds.length=n
 |0,[],ds,h=>by unfold jje at h;cases h;exact⟨by unfold RE;rfl,rfl⟩
 |0,_::_,ds,h=>by unfold jje at h;cases h
 |n+1,l,ds,h=>by
  unfold jje at h;split at h
  ·rename_i c;split at h
   ·rename_i d r hd i;cases h;obtain⟨f,g⟩:=jnv i;have b:d.cells=(l.take es).map .sc:=by
     unfold mkD at hd;split at hd
     ·cases hd;rfl
     ·split at hd
      ·rename_i d' a;cases hd;rw[a];cases e:l.take es with
       |nil=>rw[e]at a;cases a
       |cons v j=>
        rw[e]at a;simp only[List.map_cons,List.cons.injEq]at a;rw[<-a.1];rfl
      ·cases hd
    refine⟨?_,by simp[g]⟩;have:=RE.mk (F:=F) (w:=w) (d:=d) c.1 (by rw[b];exact jgk c.2) f
    rwa [List.take_append_drop]at this
   ·cases h
  ·cases h

theorem jre{T:TyE}{el:TypeId}{es:Nat}{ds:List D}(h:jrf ty T=some (el,es,ds)):RE F w es ds T.zero.cells.toList/\ 0<es/\ ds.length<=maxLen:=by
 unfold jrf at h;split at h
 ·split at h
  ·rename_i g;split at h
   ·split at h
    ·rename_i d;rw[Option.map_eq_some_iff]at h;obtain⟨a,e,f⟩:=h;cases f;obtain⟨b,c⟩:=jnv (F:=F) (w:=w) e;exact⟨b,d,by rw[c];unfold maxLen;omega⟩
    ·cases h
   ·cases h
  ·cases h
 ·cases h

theorem jl8(c:∀t x,ty t=some x->TyOK P t x)(h:ORel cx κ F w U σ)(d:¬U nm){o:Oper}{ρ:Operand->Value}{e:Operand->AV}{t:TypeId}(f:o.op=.alloc t):
  ja4 P cx κ F w U nm σ o ρ (spec ty Γ σ e nm o):=by
 unfold ja4 spec;simp only[f];cases l:ty t with
 |none=>intro b;exact b.elim
 |some T=>
  simp only[];have a:(execOp ρ o).run P w=.ok (.value (.pointer (some ⟨w.heap.size,0,none⟩))) (w.alloc (.cells T.zero.cells t)):=by
   unfold execOp;simp only[f];refine jbk _ ?_;simp only[Instr.alloc,Sem.run_bind,jdr (c t T l),Result.andThen_ok,newVar,jcq,Sem.run_pure]
  split
  ·rename_i el es ds hb;intro _;obtain⟨g,i,j⟩:=jre (F:=F) (w:=w) hb;exact jam a (jr7 h d g i j)
  ·split
   ·rename_i k;intro _;exact jam a (jp6 h d (jm0 k) ji1)
   ·intro b;exact b.elim

theorem jpi(h:ORel cx κ F w U σ)(f:¬U nm){o:Oper}{ρ:Operand->Value}{e:Operand->AV}(d:∀x,RV κ F w (e x) (ρ x))(g:∀x,NB U (e x)){t:TypeId}{x:Operand}(a:o.op=.box t x):
  ja4 P cx κ F w U nm σ o ρ (spec ty Γ σ e nm o):=by
 unfold ja4 spec;simp only[a];cases hc:(e x).cells with
 |none=>intro i;exact i.elim
 |some cs=>
  intro _;obtain⟨b,c⟩:=jdm hc (d x) (g x);refine jam (v:=.pointer (some ⟨w.heap.size,0,none⟩)) (w':=w.alloc (.cells (ρ x).cells t)) ?_ (jp6 h f b c);unfold execOp;simp only[a];refine jbk _ ?_;simp only[Instr.box,Sem.run_bind,newVar,jcq,Result.andThen_ok,Sem.run_pure]

theorem jiz(h:ORel cx κ F w U σ){o:Oper}{ρ:Operand->Value}{e:Operand->AV}(a:∀x,RV κ F w (e x) (ρ x))(b:∀x,NB U (e x)){x:Operand}(ho:o.op=.move x \/o.op=.assign x):
  ja4 P cx κ F w U nm σ o ρ (spec ty Γ σ e nm o):=by
 unfold ja4 spec;rcases ho with ho|ho<;>
 ·simp only[ho];intro _;refine jam (v:=ρ x) (w':=w) ?_ (jat h (a x) (b x));unfold execOp;simp only[ho,Sem.run_pure]

theorem jmn{x:AV}{b:Bool}(h:jft x=some b):x=.dat (.sc (.bool b)):=by
 unfold jft at h;split at h
 ·simpa using h
 ·cases h
theorem jos{x:AV}{k:IntKind}{n:Int}(h:jbj x=some (k,n)):x=.dat (.sc (.int k n)):=by
 unfold jbj at h;split at h
 ·simpa using h
 ·cases h
theorem jor{x:AV}{b:ByteArray}(h:jht x=some b):x=.dat (.sc (.string b)):=by
 unfold jht at h;split at h
 ·simpa using h
 ·cases h
theorem jj0{x:AV}{b:Bool}{v:Value}(h:jft x=some b)(a:RV κ F w x v):v=.bool b:=by
 rw[jmn h]at a;unfold RV RD at a;exact a.1
theorem jbx{x:AV}{k:IntKind}{n:Int}{v:Value}(h:jbj x=some (k,n))(a:RV κ F w x v):v=.int k n:=by
 rw[jos h]at a;unfold RV RD at a;exact a.1
theorem ji2{x:AV}{b:ByteArray}{v:Value}(h:jht x=some b)(a:RV κ F w x v):v=.string b:=by
 rw[jor h]at a;unfold RV RD at a;exact a.1

theorem jez(d:D):NB U (.dat d):=by unfold NB;trivial
theorem jvb{v:Value}(h:one v=true):RV κ F w (.dat (.sc v)) v:=by unfold RV RD;exact⟨rfl,h⟩

theorem jtd(h:ORel cx κ F w U σ){p:Prop}{rd:List Nat}{v:Value}(a:one v=true):SR cx κ F w U nm σ (.det p rd (.dat (.sc v)) []) v w:=
 jat h (jvb a) (jez _)

theorem jjq{s t:Spec}{v:Value}{w':World}{b:Bool}(hb:b=true)(h:SR cx κ F w U nm σ s v w'):SR cx κ F w U nm σ (.split b s t) v w':=by
 subst hb;exact h
theorem jie{s t:Spec}{v:Value}{w':World}{b:Bool}(hb:b=false)(h:SR cx κ F w U nm σ t v w'):SR cx κ F w U nm σ (.split b s t) v w':=by
 subst hb;exact h

theorem joe(h:ORel cx κ F w U σ){o:Oper}{ρ:Operand->Value}{e:Operand->AV}(d:∀x,RV κ F w (e x) (ρ x))(g:∀x,NB U (e x)){c a b:Operand}(f:o.op=.pick c a b):
  ja4 P cx κ F w U nm σ o ρ (spec ty Γ σ e nm o):=by
 unfold ja4 spec;simp only[f];cases hb:jft (e c)with
 |none=>intro j;exact j.elim
 |some t=>
  intro _;have i:=jj0 hb (d c);cases t with
  |true=>
   refine jam (v:=ρ a) (w':=w) ?_ (jjq rfl (jat h (d a) (g a)));unfold execOp;simp[f,i,asBool]
  |false=>
   refine jam (v:=ρ b) (w':=w) ?_ (jie rfl (jat h (d b) (g b)));unfold execOp;simp[f,i,asBool]

theorem js4{r:Int}(h: -9223372036854775808<=r/\ r<=9223372036854775807):IntKind.i64.wrap r=r:=by
 rw[IntKind.wrap_i64];omega

theorem jdz(h:ORel cx κ F w U σ){o:Oper}{ρ:Operand->Value}{k:IntKind}{r:Int}(a:(execOp ρ o).run P w=.ok (.value (.int k (k.wrap r))) w):ja4 P cx κ F w U nm σ o ρ (jli k r):=by
 intro _;exact jam a (jtd h rfl)

theorem ja5(h:ORel cx κ F w U σ){o:Oper}{ρ:Operand->Value}{b:Bool}(a:(execOp ρ o).run P w=.ok (.value (.bool b)) w):ja4 P cx κ F w U nm σ o ρ (jcv b):=
 fun _=>jam a (jtd h rfl)

theorem jay(h:ORel cx κ F w U σ){o:Oper}{ρ:Operand->Value}{p:Prop}{rd:List Nat}{v:Value}(a:one v=true)(c:p->(execOp ρ o).run P w=.ok (.value v) w):ja4 P cx κ F w U nm σ o ρ (.det p rd (.dat (.sc v)) []):=
 fun b=>jam (c b) (jtd h a)

theorem jqs(c:BinOp)(t:TypeId)(x y:Operand){k k':IntKind}{a b:Int}:(eqGuard c t x y (.int k a) (.int k' b)).run P w=.ok () w:=by
 unfold eqGuard;split<;>simp
theorem jqr(c:BinOp)(t:TypeId)(x y:Operand){a b:ByteArray}:(eqGuard c t x y (.string a) (.string b)).run P w=.ok () w:=by
 unfold eqGuard;split<;>simp
theorem jjb(c:BinOp)(t:TypeId)(x y:Operand){a b:Bool}:(eqGuard c t x y (.bool a) (.bool b)).run P w=.ok () w:=by
 unfold eqGuard;split<;>simp

theorem jhd{t:TypeId}(c:P.underlying t=some .bool)(a b:Bool):(Op.equal t (.bool a) (.bool b)).run P w=.ok (a==b) w:=by
 have:∀d,(Op.equalIn (d+1) t (.bool a) (.bool b)).run P w=.ok (a==b) w:=fun d=>by simp only[Op.equalIn,Sem.run_bind,run_underlying c,Result.andThen_ok,Sem.run_pure]
 exact this 9999

theorem jsc(c:BinOp)(t:TypeId)(x y:Operand){a b:Option Addr}:(eqGuard c t x y (.pointer a) (.pointer b)).run P w=.ok () w:=by
 unfold eqGuard;split<;>simp
theorem jpp{t el:TypeId}(b:P.underlying t=some (.pointer el))(a:Option Addr):(Op.equal t (.pointer a) (.pointer none)).run P w=.ok a.isNone w:=by
 have:∀d,(Op.equalIn (d+1) t (.pointer a) (.pointer none)).run P w=.ok a.isNone w:=fun d=>by
  cases a<;>simp[Op.equalIn,Sem.run_bind,run_underlying b]
 exact this 9999
theorem jnn(e:BinOp)(t:TypeId)(x y:Operand){a a':Option Addr}{n c d b:Nat}:(eqGuard e t x y (.slice a n c) (.slice a' d b)).run P w=.ok () w:=by
 unfold eqGuard;split<;>simp
theorem jk6{t el:TypeId}(b:P.underlying t=some (.slice el))(a:Option Addr)(n c:Nat):(Op.equal t (.slice a n c) (.slice none 0 0)).run P w=.ok a.isNone w:=by
 have:∀d,(Op.equalIn (d+1) t (.slice a n c) (.slice none 0 0)).run P w=.ok a.isNone w:=fun d=>by
  cases a<;>simp[Op.equalIn,Sem.run_bind,run_underlying b]
 exact this 9999

theorem jc0{o:Oper}{ρ:Operand->Value}{a:BinOp}{t u:TypeId}{x y:Operand}(c:o.op=.binOp a t x y u){v:Value}
  (b:(eqGuard a t x y (ρ x) (ρ y)).run P w=.ok () w) (d:(binOp a t (ρ x) (ρ y)).run P w=.ok v w):(execOp ρ o).run P w=.ok (.value v) w:=by
 unfold execOp;simp only[c];refine jbk _ ?_;simp only[Sem.run_bind,b,Result.andThen_ok,d]

theorem jfd{F:Nat->Prop}{w:World}:∀{l:List D}{us:List Value}(i:Nat)(v:Value),RC F w l us->l[i]? =some (.sc v)->us[i]? =some v
 |[],_,i,v,_,h=>by simp at h
 |d::l,us,0,v,h,hi=>by
  unfold RC at h;obtain⟨u,a,rfl,_,b,_⟩:=h;simp only[List.getElem?_cons_zero,Option.some.injEq]at hi;subst hi;unfold RD at b;simp[b.1]
 |d::l,us,i+1,v,h,hi=>by
  unfold RC at h;obtain⟨u,a,rfl,_,_,c⟩:=h;simpa using jfd i v c (by simpa using hi)

theorem jgu(c:∀t x,ty t=some x->TyOK P t x){F:Nat->Prop}{xs ys:List D}{cs cs':List Value}(n:RC F w xs cs)(o:RC F w ys cs')(d:Nat):
  ∀(i:List Field)(b:Bool),(i.all fun f=>f.name != "_")=true->eqF0 ty xs ys i=some b->(Op.eqFields (d+1) cs.toArray cs'.toArray i).run P w=.ok b w
 |[],b,_,h=>by simp only[eqF0,Option.some.injEq]at h;subst h;simp[Op.eqFields]
 |f::i,b,m,h=>by
  simp only[List.all_cons,Bool.and_eq_true,bne_iff_ne,ne_eq]at m;have part:∀(cs:List Value)(v:Value)(de:TypeDesc),P.underlying f.type=some de->(∀a b,de≠.array a b)->(∀a,de≠.struct a)->cs[f.offset]? =some v->(part f.type cs.toArray f.offset).run P w=.ok v w:=by
   intro cs v de e j l hc;cases de<;>first|exact absurd rfl (j _ _)|exact absurd rfl (l _)|simp[part,isAgg,run_underlying e,hc]
  unfold eqF0 at h;split at h
  ·rename_i q _ _ _ _ k a k' g j l p;split at h
   ·rename_i y;subst y;obtain⟨r,s,rfl⟩:=Option.map_eq_some_iff.1 h;have e:=(c _ _ j).1;have u:=jgu c n o d i r m.2 s;simp only[Op.eqFields,m.1,ne_eq,not_false_eq_true,if_true,Sem.run_bind,part cs _ _ e (by simp) (by simp) (jfd _ _ n l),part cs' _ _ e (by simp) (by simp) (jfd _ _ o p),Result.andThen_ok,run_equalIn_int w d f.type k _ a g e];cases(a==g)<;>simp[u]
   ·cases h
  ·rename_i _ _ _ _ a g j l p;obtain⟨r,s,rfl⟩:=Option.map_eq_some_iff.1 h;have e:=(c _ _ j).1;have u:=jgu c n o d i r m.2 s;simp only[Op.eqFields,m.1,ne_eq,not_false_eq_true,if_true,Sem.run_bind,part cs _ _ e (by simp) (by simp) (jfd _ _ n l),part cs' _ _ e (by simp) (by simp) (jfd _ _ o p),Result.andThen_ok,run_equalIn_bool' w d f.type a g e];cases(a==g)<;>simp[u]
  ·rename_i _ _ _ _ a g j l p;obtain⟨r,s,rfl⟩:=Option.map_eq_some_iff.1 h;have e:=(c _ _ j).1;have u:=jgu c n o d i r m.2 s;simp only[Op.eqFields,m.1,ne_eq,not_false_eq_true,if_true,Sem.run_bind,part cs _ _ e (by simp) (by simp) (jfd _ _ n l),part cs' _ _ e (by simp) (by simp) (jfd _ _ o p),Result.andThen_ok,run_equalIn_string w d f.type a g e];cases(a.toList==g.toList)<;>simp[u]
  ·cases h

theorem jh9{F:Nat->Prop}{w:World}:∀(n:Nat){l:List D}{us:List Value},RC F w l us->RC F w (l.drop n) (us.drop n)
 |0,_,_,h=>h
 |n+1,[],us,h=>by unfold RC at h;subst h;simp only[List.drop_nil];unfold RC;rfl
 |n+1,d::l,us,h=>by
  unfold RC at h;obtain⟨u,b,rfl,_,_,a⟩:=h;exact jh9 n a
theorem jm1{F:Nat->Prop}{w:World}:∀(n:Nat){l:List D}{us:List Value},RC F w l us->RC F w (l.take n) (us.take n)
 |0,l,us,h=>by simp only[List.take_zero];unfold RC;rfl
 |n+1,[],us,h=>by unfold RC at h;subst h;simp only[List.take_nil];unfold RC;rfl
 |n+1,d::l,us,h=>by
  unfold RC at h;obtain⟨u,e,rfl,a,b,c⟩:=h;simp only[List.take_succ_cons];unfold RC;exact⟨_,_,rfl,a,b,jm1 n c⟩
theorem jhe(c:∀t x,ty t=some x->TyOK P t x){F:Nat->Prop}{xs ys:List D}{cs cs':List Value}(s:RC F w xs cs)(u:RC F w ys cs')(d:Nat):
  ∀(p:List Field)(b:Bool),(p.all fun f=>f.name != "_")=true->eqF ty xs ys p=some b->(Op.eqFields (d+2) cs.toArray cs'.toArray p).run P w=.ok b w
 |[],b,_,h=>by simp only[eqF,Option.some.injEq]at h;subst h;simp[Op.eqFields]
 |f::p,b,m,h=>by
  simp only[List.all_cons,Bool.and_eq_true,bne_iff_ne,ne_eq]at m;have part:∀(cs:List Value)(v:Value)(de:TypeDesc),P.underlying f.type=some de->(∀a b,de≠.array a b)->(∀a,de≠.struct a)->cs[f.offset]? =some v->(part f.type cs.toArray f.offset).run P w=.ok v w:=by
   intro cs v de g j y hc;cases de<;>first|exact absurd rfl (j _ _)|exact absurd rfl (y _)|simp[part,isAgg,run_underlying g,hc]
  unfold eqF at h;split at h
  ·rename_i q _ _ _ _ k a k' o j y B;split at h
   ·rename_i J;subst J;obtain⟨r,z,rfl⟩:=Option.map_eq_some_iff.1 h;have g:=(c _ _ j).1;have A:=jhe c s u d p r m.2 z;simp only[Op.eqFields,m.1,ne_eq,not_false_eq_true,if_true,Sem.run_bind,part cs _ _ g (by simp) (by simp) (jfd _ _ s y),part cs' _ _ g (by simp) (by simp) (jfd _ _ u B),Result.andThen_ok,run_equalIn_int w (d+1) f.type k _ a o g];cases(a==o)<;>simp[A]
   ·cases h
  ·rename_i _ _ _ _ a o j y B;obtain⟨r,z,rfl⟩:=Option.map_eq_some_iff.1 h;have g:=(c _ _ j).1;have A:=jhe c s u d p r m.2 z;simp only[Op.eqFields,m.1,ne_eq,not_false_eq_true,if_true,Sem.run_bind,part cs _ _ g (by simp) (by simp) (jfd _ _ s y),part cs' _ _ g (by simp) (by simp) (jfd _ _ u B),Result.andThen_ok,run_equalIn_bool' w (d+1) f.type a o g];cases(a==o)<;>simp[A]
  ·rename_i _ _ _ _ a o j y B;obtain⟨r,z,rfl⟩:=Option.map_eq_some_iff.1 h;have g:=(c _ _ j).1;have A:=jhe c s u d p r m.2 z;simp only[Op.eqFields,m.1,ne_eq,not_false_eq_true,if_true,Sem.run_bind,part cs _ _ g (by simp) (by simp) (jfd _ _ s y),part cs' _ _ g (by simp) (by simp) (jfd _ _ u B),Result.andThen_ok,run_equalIn_string w (d+1) f.type a o g];cases(a.toList==o.toList)<;>simp[A]
  ·rename_i C n _ _ j;split at h
   ·rename_i q G;obtain⟨r,z,rfl⟩:=Option.map_eq_some_iff.1 h;have H:=c _ _ j;obtain⟨g,i,_,_,_,_,K⟩:=H;obtain⟨q1,M,L⟩:=K rfl;have A:=jhe c s u d p r m.2 z;have l:∀cs:List Value,(Go.part f.type cs.toArray f.offset).run P w=.ok (.agg ((cs.drop f.offset).take n).toArray) w:=by
     intro cs;have e:cs.toArray.extract f.offset (f.offset+n)=((cs.drop f.offset).take n).toArray:=by
      rw[List.extract_toArray];simp[List.extract]
     unfold Go.part;simp only[Sem.run_bind,jbm (c _ _ j),TyE.isAgg,Result.andThen_ok,if_true,jar (c _ _ j),Sem.run_pure,e]
    have I:P.fieldsOf f.type=C:=by simp[Program.fieldsOf,g]
    have E:=jgu c (jm1 n (jh9 f.offset s)) (jm1 n (jh9 f.offset u)) d C.toList q (L C rfl) G;have heq:(Op.equalIn (d+2) f.type (.agg ((cs.drop f.offset).take n).toArray) (.agg ((cs'.drop f.offset).take n).toArray)).run P w=.ok q w:=by
     rw[run_equalIn_agg w (d+1) f.type _ _ (by rw[I];exact g) q1,I];exact E
    simp only[Op.eqFields,m.1,ne_eq,not_false_eq_true,if_true,Sem.run_bind,l cs,l cs',Result.andThen_ok,heq];cases q<;>simp[A]
   ·cases h
  ·cases h

theorem jte{F:Nat->Prop}{el:TypeId}{t:IntKind}(f:P.underlying el=some (.int t)){cs cs':List Value}(d:Nat):∀{xs ys:List D}(i:Nat)(b:Bool),RC F w xs (cs.drop i)->RC F w ys (cs'.drop i)->eqA xs ys=some b->
  ((forIn (List.range' i xs.length) ((none,()):Option Bool×Unit) fun(j:Nat)(_:Option Bool×Unit)=>(do
   if !(<-Op.equalIn (d+1) el (<-part el cs.toArray (j*1)) (<-part el cs'.toArray (j*1)))then return .done (some false,())
   return .yield (none,()):Sem (ForInStep (Option Bool×Unit)))).run P w).andThen (fun r w'=>match r.1 with|none=>.ok true w'|some a=>.ok a w')=.ok b w:=by
 intro xs
 induction xs with
 |nil=>
  intro ys i b _ _ h;cases ys with
  |nil=>simp only[eqA,Option.some.injEq]at h;subst h;simp
  |cons y l=>simp[eqA]at h
 |cons x l e=>
  intro ys i b g m h;unfold eqA at h;split at h
  ·rename_i _ q;cases q
  ·rename_i _ k a l0 k' c l' q1;obtain⟨rfl,rfl⟩:=List.cons.inj q1;split at h
   ·rename_i p;subst p;obtain⟨r,s,rfl⟩:=Option.map_eq_some_iff.1 h;have n:cs[i]? =some (.int k a):=by have:=jfd 0 (.int k a) g rfl;simpa using this
    have o:cs'[i]? =some (.int k c):=by have:=jfd 0 (.int k c) m rfl;simpa using this
    have part:∀(cs:List Value)(v:Value),cs[i]? =some v->(part el cs.toArray i).run P w=.ok v w:=by
     intro cs v hc;simp[Go.part,isAgg,run_underlying f,hc]
    have e:=e (i+1) r (by have:=jh9 1 g;simpa[List.drop_drop,Nat.add_comm]using this) (by have:=jh9 1 m;simpa[List.drop_drop,Nat.add_comm]using this) s;simp only[Nat.mul_one]at e ⊢;simp only[List.length_cons,List.range'_succ,List.forIn_cons,Sem.run_bind,part cs _ n,part cs' _ o,Result.andThen_ok,run_equalIn_int w d el k _ a c f];cases(a==c)
    ·simp
    ·simpa using e
   ·cases h
  ·cases h
theorem jee{F:Nat->Prop}{t el:TypeId}{n:Nat}{j:IntKind}(i:P.underlying t=some (.array n el))(g:P.underlying el=some (.int j))(hs:(sizeOf el).run P w=.ok 1 w){l l':List D}{cs cs':List Value}(c:RC F w l cs)(f:RC F w l' cs')(h:l.length=n)(d:Nat){b:Bool}(hb:eqA l l'=some b):
  (Op.equalIn (d+2) t (.agg cs.toArray) (.agg cs'.toArray)).run P w=.ok b w:=by
 have:=jte (P:=P) (w:=w) g d 0 b (xs:=l) (ys:=l') (cs:=cs) (cs':=cs') (by simpa using c) (by simpa using f) hb;rw[h]at this;rw[show d+2=(d+1)+1 from rfl];generalize d+1=e at this ⊢;simp only[Op.equalIn,Sem.run_bind,run_underlying i,Result.andThen_ok,hs,Std.Legacy.Range.forIn_eq_forIn_range',Std.Legacy.Range.size,Nat.sub_zero,Nat.add_sub_cancel,Nat.div_one];rw[<-this];congr 1;funext a w';rcases a with⟨_|_,_⟩<;>simp
theorem jpq(h:∀t x,ty t=some x->TyOK P t x){F:Nat->Prop}{l l':List D}{cs cs':List Value}(c:RC F w l cs)(e:RC F w l' cs'){t:TypeId}{d:TypeDesc}(j:P.underlying t=some d)(q1:P.stoodInHeld t=false)(p:∀a,d=.struct a->(a.toList.all fun f=>f.name != "_")=true){b:Bool}(hb:jt4 ty l l' d=some b):
  (Op.equalIn 10000 t (.agg cs.toArray) (.agg cs'.toArray)).run P w=.ok b w:=by
 unfold jt4 at hb;split at hb
 ·rename_i a;have m:P.fieldsOf t=a:=by simp[Program.fieldsOf,j]
  have g:=jhe (P:=P) h c e 9997 a.toList b (p a rfl) hb;rw[run_equalIn_agg w 9999 t _ _ (by rw[m];exact j) q1,m];exact g
 ·rename_i n el;split at hb
  ·rename_i q _ _ _ i;split at hb
   ·rename_i o;have k:=h _ _ i;exact jee j k.1 (jar k) c e o 9998 hb
   ·cases hb
  ·cases hb
 ·cases hb
theorem jl9(c:∀t x,ty t=some x->TyOK P t x)(h:ORel cx κ F w U σ){o:Oper}{ρ:Operand->Value}{e:Operand->AV}(r:∀x,RV κ F w (e x) (ρ x)){v:BinOp}{t u:TypeId}{x y:Operand}(s:o.op=.binOp v t x y u):
  ja4 P cx κ F w U nm σ o ρ (jmy ty v t (e x) (e y)):=by
 unfold jmy;split
 ·rename_i l l' m n;have p:=r x;have q:=r y
  rw[m]at p;rw[n]at q;unfold RV RD at p q;obtain⟨cs,f,j⟩:=p;obtain⟨cs',g,k⟩:=q;split
  ·rename_i d H B z C;obtain⟨E,i,_,_,_,_,D⟩:=c _ _ C;obtain⟨q1,A,G⟩:=D rfl;split
   ·rename_i b hb;have heq:(Op.equalIn 10000 t (.agg cs.toArray) (.agg cs'.toArray)).run P w=.ok b w:=jpq c j k E q1 G hb;split
    ·refine ja5 h (jc0 s (by rw[f,g];exact run_eqGuard_agg w _ t _ _ _ _ A) ?_);rw[f,g,run_eql_struct,heq];rfl
    ·refine ja5 h (jc0 s (by rw[f,g];exact run_eqGuard_agg w _ t _ _ _ _ A) ?_);rw[f,g,run_neq_struct,heq];rfl
    ·intro a;exact a.elim
   ·intro a;exact a.elim
  ·intro a;exact a.elim
 ·intro a;exact a.elim

theorem jpj(C:∀t x,ty t=some x->TyOK P t x)(h:ORel cx κ F w U σ){o:Oper}{ρ:Operand->Value}{e:Operand->AV}(z:∀x,RV κ F w (e x) (ρ x)){r:BinOp}{t u:TypeId}{x y:Operand}(B:o.op=.binOp r t x y u):
  ja4 P cx κ F w U nm σ o ρ (spec ty Γ σ e nm o):=by
 have hs:spec ty Γ σ e nm o=jge ty r t (e x) (e y):=by unfold spec;simp only[B]
 rw[hs];unfold jge;split
 ·rename_i k a k' b j D;have g:=jbx j (z x);have q:=jbx D (z y);have f:∀v,(binOp r t (.int k a) (.int k' b)).run P w=.ok v w->(execOp ρ o).run P w=.ok (.value v) w:=fun v H=>
   jc0 B (by rw[g,q];exact jqs ..) (by rw[g,q];exact H)
  split
  ·refine jay h rfl fun p=>f _ ?_;have:¬b<0:=by omega
   simp[binOp,Op.shift,this]
  ·refine jay h rfl fun p=>f _ ?_;have:¬b<0:=by omega
   simp[binOp,Op.shift,this]
  ·rename_i L M;split
   ·rename_i R;subst R;have i:∀v,(match r with
      | .add| .sub| .mul=>Op.intArith r k a b
      | .quo| .rem=>Op.intDiv r k a b
      | .and| .or| .xor| .andNot=>Op.intBits r k a b
      |_=>Op.intCmp r a b:Sem Value).run P w=.ok v w->(execOp ρ o).run P w=.ok (.value v) w:=fun v H=>f v (by
     cases r<;>first|exact absurd rfl L|exact absurd rfl M|simpa[binOp]using H)
    split
    ·exact jdz h (i _ (by simp[Op.intArith]))
    ·exact jdz h (i _ (by simp[Op.intArith]))
    ·exact jdz h (i _ (by simp[Op.intArith]))
    ·exact jay h rfl fun p=>i _ (by simp[Op.intDiv,p])
    ·exact jay h rfl fun p=>i _ (by simp[Op.intDiv,p])
    ·exact ja5 h (i _ (by simp[Op.intCmp]))
    ·exact ja5 h (i _ (by simp[Op.intCmp]))
    ·exact ja5 h (i _ (by simp[Op.intCmp]))
    ·exact ja5 h (i _ (by simp[Op.intCmp]))
    ·exact ja5 h (i _ (by simp[Op.intCmp]))
    ·exact ja5 h (i _ (by simp[Op.intCmp]))
    ·exact jay h rfl fun p=>i _ (by simp[Op.intBits])
    ·exact jay h rfl fun p=>i _ (by simp[Op.intBits])
    ·exact jay h rfl fun p=>i _ (by simp[Op.intBits])
    ·intro p;exact p.elim
   ·intro p;exact p.elim
 ·split
  ·rename_i a b j D;have g:=ji2 j (z x);have q:=ji2 D (z y);have f:∀v,(Op.stringOp r a b).run P w=.ok v w->(execOp ρ o).run P w=.ok (.value v) w:=fun v H=>
    jc0 B (by rw[g,q];exact jqr ..) (by rw[g,q];cases r<;>simpa[binOp]using H)
   split
   ·refine jay h rfl fun p=>f _ ?_;have:¬(((a.size+b.size:Nat):Int)>IntKind.i64.max):=by
     have e:IntKind.i64.max=9223372036854775807:=by decide
     rw[e];omega
    simp only[Op.stringOp,this,if_false,Sem.run_pure]
   all_goals first|exact ja5 h (f _ (by simp[Op.stringOp]))|(intro p;exact p.elim)
  ·split
   ·rename_i a b size bytes zero j D T;have g:=jj0 j (z x);have q:=jj0 D (z y);have G:=(C _ _ T).1;split
    ·refine ja5 h (jc0 B (by rw[g,q];exact jjb ..) ?_);rw[g,q];simp only[binOp,Sem.run_bind,jhd G,Result.andThen_ok,Sem.run_pure]
    ·refine ja5 h (jc0 B (by rw[g,q];exact jjb ..) ?_);rw[g,q];simp only[binOp,Sem.run_bind,jhd G,Result.andThen_ok,Sem.run_pure]
    ·intro p;exact p.elim
   ·unfold jhl;split
    ·rename_i el size bytes zero I D;have G:=(C _ _ I).1;have q:ρ y=.slice none 0 0:=by
      have:=z y;rw[D]at this;unfold RV RD at this;exact this.1
     have f:∀(a:Option Addr)(n c:Nat),ρ x=.slice a n c->(r=.eql->(execOp ρ o).run P w=.ok (.value (.bool a.isNone)) w)/\ (r=.neq->(execOp ρ o).run P w=.ok (.value (.bool (!a.isNone))) w):=by
      intro a n c g;refine⟨fun d=>?_,fun d=>?_⟩
      ·subst d;exact jc0 B (by rw[g,q];exact jnn ..) (by rw[g,q];simp only[binOp,Sem.run_bind,jk6 G,Result.andThen_ok,Sem.run_pure])
      ·subst d;exact jc0 B (by rw[g,q];exact jnn ..) (by rw[g,q];simp only[binOp,Sem.run_bind,jk6 G,Result.andThen_ok,Sem.run_pure])
     have key:∀s:Bool,((s=false/\ r=.eql) \/(s=true/\ r=.neq))->ja4 P cx κ F w U nm σ o ρ (jis s (e x)):=by
      intro s A;have j:=z x;unfold jis;split
      ·rename_i es V l m;rw[m]at j;unfold RV RD at j;obtain⟨a,c,g,_,_,K,E⟩:=j;refine jay h rfl fun _=>?_;rcases E with E|⟨b,O,us,J,_⟩
       ·cases E
       ·subst J;rcases A with⟨rfl,d⟩|⟨rfl,d⟩
        ·rw[(f _ _ c g).1 d];rfl
        ·rw[(f _ _ c g).2 d];rfl
      ·rename_i es l Q m;rw[m]at j;unfold RV RD at j;obtain⟨a,c,g,_,_,K,E⟩:=j;intro _;have S:(execOp ρ o).run P w=.ok (.value (.bool (a.isNone !=s))) w:=by
        rcases A with⟨rfl,d⟩|⟨rfl,d⟩
        ·rw[(f a _ c g).1 d];simp
        ·rw[(f a _ c g).2 d];simp
       refine jam S ⟨.dat (.sc (.bool (a.isNone !=s))),[],κ,F,⟨rfl,a.isNone,rfl,fun N=>?_⟩,Aft.same h,by unfold RV RD;exact⟨rfl,rfl⟩,by unfold NB;trivial⟩;rcases E with E|⟨b,O,us,J,_⟩
       ·exact absurd E N
       ·rw[J];rfl
      ·rename_i m;rw[m]at j;unfold RV RD at j;have g:=j.1;refine jay h rfl fun _=>?_;rcases A with⟨rfl,d⟩|⟨rfl,d⟩
       ·rw[(f none 0 0 g).1 d];rfl
       ·rw[(f none 0 0 g).2 d];rfl
      ·intro p;exact p.elim
     split
     ·exact key false (.inl ⟨rfl,rfl⟩)
     ·exact key true (.inr ⟨rfl,rfl⟩)
     ·intro p;exact p.elim
    ·rename_i el size bytes zero I D;have G:=(C _ _ I).1;have q:ρ y=.pointer none:=by
      have:=z y;rw[D]at this;unfold RV RD at this;exact this.1
     have f:∀a:Option Addr,ρ x=.pointer a->(r=.eql->(execOp ρ o).run P w=.ok (.value (.bool a.isNone)) w)/\ (r=.neq->(execOp ρ o).run P w=.ok (.value (.bool (!a.isNone))) w):=by
      intro a g;refine⟨fun d=>?_,fun d=>?_⟩<;>subst d<;>exact jc0 B (by rw[g,q];exact jsc ..) (by rw[g,q];simp only[binOp,Sem.run_bind,jpp G,Result.andThen_ok,Sem.run_pure])
     have j:=z x;split
     ·rename_i m;rw[m]at j;unfold RV at j;obtain⟨b,_,g⟩:=j;exact ja5 h ((f _ g).1 rfl)
     ·rename_i m;rw[m]at j;unfold RV at j;obtain⟨b,_,g⟩:=j;exact ja5 h ((f _ g).2 rfl)
     ·rename_i m;rw[m]at j;unfold RV RD at j;exact ja5 h ((f _ j.1).1 rfl)
     ·rename_i m;rw[m]at j;unfold RV RD at j;exact ja5 h ((f _ j.1).2 rfl)
     ·intro p;exact p.elim
    ·exact jl9 C h z B

end
end Go.Ab
