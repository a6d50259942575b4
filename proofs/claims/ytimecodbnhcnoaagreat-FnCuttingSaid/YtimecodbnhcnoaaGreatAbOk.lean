/- My own layer, third part: what a state stands for, the triple 'Ok', and its rules. -/
import Derived.Test.YtimecodbnhcnoaaGreatAbSpec
import Derived.Test.YtimecodbnhcnoaaGreatAbOwn
import Derived.Deep.LoopGhost
namespace Go.Ab
set_option linter.unusedVariables false
set_option linter.unusedSimpArgs false

structure Inv where
 Z:Nat->Prop
 ok:World->Prop
 st:∀w w':World,(∀b,Z b->w'.heap[b]? =w.heap[b]?)->ok w->ok w'
def Inv.none:Inv:=⟨fun _=>False,fun _=>True,fun _ _ _ _=>trivial⟩
structure JOK(J:Inv)(F:Nat->Prop)(w:World):Prop where
 ok:J.ok w
 fr:∀b,J.Z b->F b
theorem JOK.mono{J:Inv}{F F':Nat->Prop}{w w':World}(h:JOK J F w)(hF:∀b,F b->F' b)(hb:∀b,F b->w'.heap[b]? =w.heap[b]?):JOK J F' w':=
 ⟨J.st w w' (fun b a=>hb b (h.fr b a)) h.ok,fun b a=>hF b (h.fr b a)⟩

structure Cx where
 K:Nat->Prop
 G:Nat->Prop
 B:Nat
 L:Nat
 κ0:Kap
 J:Inv

def jb7(F:Nat->Prop)(w:World)(e:TypeId)(es:Nat)(u:Value)(l:List D):Prop:=
 ∃us,Own w e es u l.length us/\ RE F w es l us/\ 0<es

def blk:Value->Option Nat
 | .pointer (some a)=>some a.block
 | .map (some b)=>some b
 | .slice (some a) _ _=>some a.block
 |_=>none

def jbv(mask:List (Option TypeId))(n:Nat)(hole:Option (Nat×Nat))(k j:Nat):Prop:=k<n/\ (jao mask j).isSome=true/\ hole≠some (k,j)

structure TabOK(F:Nat->Prop)(w:World)(e:TypeId)(es:Nat)(mask:List (Option TypeId))(l:List D)(u:Value)(r:Nat->Nat->Value)(hole:Option (Nat×Nat)):Prop where
 pos:0<es
 mlen:mask.length<=es
 cells:∀(k:Nat)(d:D),l[k]? =some d->d.cells.length=es
 mem:∃us,Own w e es u l.length us/\ us.length=l.length*es/\ ∀(k:Nat)(d:D)(j:Nat)(c:D),l[k]? =some d->d.cells[j]? =some c->
  ∃x,us[k*es+j]? =some x/\ one x=true/\ match jao mask j with
   |none=>RD F w c x
   |some e'=>x=r k j/\ (hole=some (k,j) \/∃es' rows,c=.sl es' rows/\ jb7 F w e' es' x rows)
 apart:∀k j k' j',jbv mask l.length hole k j->jbv mask l.length hole k' j'->(k,j)≠(k',j')->∀b,blk (r k j)=some b->blk (r k' j')≠some b
 outer:∀k j,jbv mask l.length hole k j->∀b,blk (r k j)=some b->blk u≠some b

def jl2(w:World)(T E:TypeId)(u v:Value)(l:List UInt8):Prop:=
 ∃b p,u=.pointer (some ⟨b,0,none⟩)/\ w.heap[b]? =some (.cells #[p,v] T (0,0))/\ (p=.pointer none \/p=u)/\ w.ownsRow 0 E 1 v l.length (l.map fun c=>Value.int .u8 c.toNat)/\ blk v≠some b

def MR(w:World):List ((Int×Int)×D)->List MapEntry->Prop
 |[],es=>es=[]
 |(k,d)::l,es=>∃e es',es=e::es'/\ e.key=.agg #[.int .i64 k.1,.int .i64 k.2]/\ RD (fun _=>False) w d e.val/\ MR w l es'
def jia(w:World)(u:Value)(l:List ((Int×Int)×D)):Prop:=
 ∃b es a,u=.map (some b)/\ w.heap[b]? =some (.map es a)/\ MR w l es.toList

def jcb(κ:Kap)(F:Nat->Prop)(w:World)(o:Nat):Obj'->Prop
 | .box T l=>∃b arr,(κ o).v=.pointer (some ⟨b,0,none⟩)/\ w.heap[b]? =some (.cells arr T (0,0))/\ RVc κ F w l arr.toList
 | .arr e es l=>jb7 F w e es (κ o).v l
 | .bld T E l g=>jl2 w T E (κ o).v ((κ g).r 0 0) l
 | .mp _ l=>jia w (κ o).v l
 | .tab e es mask l g hole=>TabOK F w e es mask l (κ o).v (κ g).r hole

def Blk(κ:Kap)(o:Nat)(x:Obj')(b:Nat):Prop:=
 blk (κ o).v=some b \/match x with
  | .bld _ _ _ g=>blk ((κ g).r 0 0)=some b
  | .tab _ _ mask l g hole=>∃k j,jbv mask l.length hole k j/\ blk ((κ g).r k j)=some b
  |_=>False

structure ORel(cx:Cx)(κ:Kap)(F:Nat->Prop)(w:World)(U:Nat->Prop)(σ:Objs):Prop where
 ok:∀o x,σ o=some x->jcb κ F w o x
 nb:∀o x,σ o=some x->U o/\ NBo U x
 free:∀o x,σ o=some x->∀b,Blk κ o x b->¬F b/\ ¬cx.K b/\ cx.G b
 apart:∀o x o' x',σ o=some x->σ o'=some x'->o≠o'->∀b,Blk κ o x b->¬Blk κ o' x' b
 fG:∀b,F b->cx.G b/\ b<w.heap.size
 kB:∀b,cx.K b->b<cx.B
 gB:∀b,cx.B<=b->cx.G b
 bs:cx.B<=w.heap.size
 inv:JOK cx.J F w
 lt:∀j,j<cx.L->U j/\ (κ j).v=(cx.κ0 j).v

def Wy(cx:Cx)(F:Nat->Prop):World->World->Prop:=Wx fun b=>F b \/cx.K b

structure Aft(cx:Cx)(κ:Kap)(F:Nat->Prop)(w:World)(U:Nat->Prop)(κ':Kap)(F':Nat->Prop)(w':World)(U':Nat->Prop)(σ':Objs):Prop where
 kap:∀o,U o->κ' o=κ o
 fr:∀b,F b->F' b
 wx:Wy cx F w w'
 us:∀o,U o->U' o
 orel:ORel cx κ' F' w' U' σ'

structure EnvR(κ:Kap)(F:Nat->Prop)(w:World)(U:Nat->Prop)(env:List AV)(a:Act):Prop where
 size:a.tmps.size=env.length
 dfr:a.defers=[]
 rv:∀t,RV κ F w (env.getD t .und) (a.tmps.getD t undef)
 nb:∀t,NB U (env.getD t .und)

structure Rel(cx:Cx)(κ:Kap)(F:Nat->Prop)(st:St)(a:Act)(w:World):Prop where
 env:EnvR κ F w (· <st.nx) st.env a
 orel:ORel cx κ F w (· <st.nx) st.ob

def Post(cx:Cx)(Q:Exit->St->Prop)(F:Nat->Prop)(w:World)(e:Exit)(a':Act)(w':World):Prop:=
 ∃κ' F' a,Q e a/\ (∀b,F b->F' b)/\ Wy cx F w w'/\ Rel cx κ' F' a a' w'

def Ok(P:Program)(cx:Cx)(c:Code)(Q:Exit->St->Prop)(st:St):Prop:=
 ∀κ F a w,Rel cx κ F st a w->c.wp P (Post cx Q F w) a w

section
variable{P:Program}{cx:Cx}{Q:Exit->St->Prop}{st:St}

theorem Post.lift{e:Exit}{F a:Nat->Prop}{w d:World}{a':Act}{w':World}(hF:∀b,a b->F b)(k:Wy cx a d w)(h:Post cx Q F w e a' w'):Post cx Q a d e a' w':=by
 obtain⟨κ',F',c,f,g,i,j⟩:=h;exact⟨κ',F',c,f,fun b hb=>g b (hF b hb),k.trans i (fun b hb=>hb.imp (hF b) id),j⟩

theorem Ok.mono{c:Code}{d:Exit->St->Prop}(h:Ok P cx c Q st)(i:∀e s,Q e s->d e s):Ok P cx c d st:=
 fun κ F a w j=>wp_mono (h κ F a w j) fun _ _ _ ⟨κ',F',b,f,g⟩=>⟨κ',F',b,i _ _ f,g⟩

theorem Post.here{e:Exit}{κ:Kap}{F:Nat->Prop}{a:Act}{w:World}(c:Rel cx κ F st a w)(b:Q e st):Post cx Q F w e a w:=
 ⟨κ,F,st,b,fun _ h=>h,Wx.refl _ _,c⟩

theorem juf(h:Q .normal st):Ok P cx .skip Q st:=fun _ _ _ _ a=>wp_skip (Post.here a h)
theorem jva(h:Q .ret st):Ok P cx .ret Q st:=fun _ _ _ _ a=>wp_ret (Post.here a h)
theorem jag{id:Nat}(h:Q (.exit id) st):Ok P cx (.exit id) Q st:=fun _ _ _ _ a=>wp_exit (Post.here a h)

def Then(next:St->Prop)(Q:Exit->St->Prop):Exit->St->Prop
 | .normal,s=>next s
 |e,s=>Q e s

theorem jab{x y:Code}(h:Ok P cx x (Then (Ok P cx y Q) Q) st):Ok P cx (.seq x y) Q st:=by
 intro κ F a w j;refine wp_seq (wp_mono (h κ F a w j) ?_);rintro e a' w' ⟨κ',F',b,c,d,f,g⟩;cases e with
 |normal=>exact wp_mono (c κ' F' a' w' g) fun e k l i=>Post.lift d f i
 |_=>exact⟨κ',F',b,c,d,f,g⟩

def jd7(id:Nat)(Q:Exit->St->Prop):Exit->St->Prop
 | .exit a,s=>if a=id then Q .normal s else Q (.exit a) s
 |e,s=>Q e s

theorem jaa{id:Nat}{c:Code}(h:Ok P cx c (jd7 id Q) st):Ok P cx (.block id c) Q st:=by
 intro κ F a w k;refine wp_block (wp_mono (h κ F a w k) ?_);rintro e a' w' ⟨κ',F',d,f,g,i,j⟩;cases e with
 |exit l=>
  simp only[jd7]at f;simp only[Exit.inBlock];split
  ·rename_i b;rw[if_pos b]at f;exact⟨κ',F',d,f,g,i,j⟩
  ·rename_i b;rw[if_neg b]at f;exact⟨κ',F',d,f,g,i,j⟩
 |_=>exact⟨κ',F',d,f,g,i,j⟩

theorem jgk{F:Nat->Prop}{w:World}:∀{l:List Value},l.all one=true->RC F w (l.map .sc) l
 |[],_=>by simp only[List.map_nil];unfold RC;rfl
 |u::l,h=>by
  simp only[List.all_cons,Bool.and_eq_true]at h;simp only[List.map_cons];unfold RC;exact⟨u,l,rfl,h.1,by unfold RD;exact⟨rfl,h.1⟩,jgk h.2⟩

theorem RC.nz{F:Nat->Prop}{w:World}:∀(b:List (Option Nat))(l:List D)(us:List Value),RC F w l us->RC F w (nzC b l) us
 |[],l,us,h=>by unfold nzC;exact h
 |x::b,[],us,h=>by
  have:nzC (x::b) []=[]:=by cases x<;>rfl
  rw[this];exact h
 |x::b,d::l,us,h=>by
  have h0:=h;unfold RC at h;obtain⟨u,a,i,j,f,m⟩:=h;have k:=RC.nz b l a m;unfold nzC;split
  ·rename_i es g l' c e;cases c;cases e;unfold RC;refine⟨u,a,i,j,?_,k⟩;unfold RD at f ⊢;exact⟨none,0,f.1,Nat.le_refl _,by unfold maxLen;omega,fun _=>rfl,.inl rfl⟩
  ·rename_i g d' l' _ c e;cases c;cases e;unfold RC;exact⟨u,a,i,j,f,k⟩
  ·rename_i n;exact absurd rfl (n _ _ _ _ rfl)
theorem jki{κ:Kap}{F:Nat->Prop}{w:World}{U:Nat->Prop}{env:List AV}{a:Act}(h:EnvR κ F w U env a){x:Operand}:RV κ F w (jau env x) (a.eval x):=by
 cases x with
 |tmp t=>exact h.rv t
 |const v=>
  simp only[jau,Act.eval];cases v
  case agg cs=>
   simp only[jcu];split
   ·rename_i b;unfold RV RD;exact⟨cs.toList,rfl,jgk b⟩
   ·unfold RV;trivial
  all_goals (simp only[jcu];first|(unfold RV;trivial)|(unfold RV RD;exact⟨rfl,rfl⟩))
 |global g=>simp only[jau];unfold RV;trivial
 |func f=>simp only[jau,Act.eval];unfold RV;exact⟨[],rfl,by unfold RVs;rfl⟩

theorem jui{c:Operand}{x y:Code}(b:Bool)(hc:jau st.env c=.dat (.sc (.bool b)))(g:b=true->Ok P cx x Q st)(f:b=false->Ok P cx y Q st):Ok P cx (.cond c x y) Q st:=by
 intro κ F a w e;have d:=jki e.env (x:=c);rw[hc]at d;unfold RV RD at d;exact wp_cond_split d.1 (fun h=>g h κ F a w e) (fun h=>f h κ F a w e)

theorem jug{c:Code}(I:Nat->St->Prop)(q:Nat)(h₀:I q st)(f:∀n s,I n s->Ok P cx c (Then (fun s'=>∃i,i<n/\ I i s') Q) s):Ok P cx (.loop c) Q st:=by
 intro κ F a w A;refine wp_loop_ghost (fun n a' w'=>∃κ' F' d,I n d/\ (∀b,F b->F' b)/\ Wy cx F w w'/\ Rel cx κ' F' d a' w') q ⟨κ,F,st,h₀,fun _ h=>h,Wx.refl _ _,A⟩ ?_;rintro n t B ⟨C,r,l,v,j,x,y⟩;refine wp_mono (f n l v C r t B y) ?_;rintro e a' w' ⟨κ',F',d,m,o,u,p⟩;have g:Wy cx F w w':=x.trans u (fun b hb=>hb.imp (j b) id);cases e with
 |normal=>
  obtain⟨i,k,z⟩:=m;exact⟨i,k,κ',F',d,z,fun b hb=>o b (j b hb),g,p⟩
 |_=>exact⟨κ',F',d,m,fun b hb=>o b (j b hb),g,p⟩

end
end Go.Ab
