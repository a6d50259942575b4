/- My own layer: tables: what their operations leave (1). -/
import Derived.Test.YtimecodbnhcnoaaGreatAbSound6
namespace Go.Ab
set_option linter.unusedVariables false
set_option linter.unusedSimpArgs false

def rmvs(σ:Objs):List Nat->Objs
 |[]=>σ
 |n::r=>rmvs (upd σ n none) r
theorem jkn{δ:jbd}:∀{ns:List Nat}{σ:Objs},app (jfu ns++δ) σ=app δ (rmvs σ ns)
 |[],σ=>rfl
 |n::r,σ=>by
  show app (jfu r++δ) (upd σ n none)=_;rw[jkn];rfl
theorem jfl:∀{ns:List Nat}{σ:Objs}{o:Nat}{y:Obj'},rmvs σ ns o=some y->σ o=some y/\ o∉ns
 |[],σ,o,y,h=>⟨h,by simp⟩
 |n::r,σ,o,y,h=>by
  have c:rmvs (upd σ n none) r o=some y:=h;obtain⟨a,d⟩:=jfl c;by_cases b:o=n
  ·subst b;rw[jax]at a;cases a
  ·rw[jbz b]at a;exact⟨a,by simp[b,d]⟩

section
variable{P:Program}{cx:Cx}{κ:Kap}{F:Nat->Prop}{w:World}{U:Nat->Prop}{nm:Nat}{σ:Objs}{ty:TypeId->Option TyE}{Γ:Nat->Option FnSpec}

abbrev kapN(κ:Kap)(nm:Nat)(v:KV):Kap:=fun n=>if n=nm then v else κ n

theorem jkq(h:ORel cx κ F w U σ)(hf:¬U nm)(rm:List Nat)(c:Nat)(z:c=nm \/U c){v:KV}{w':World}(Q:w'.os=w.os)(r:w'.tape=w.tape)(B:w'.output=w.output)(f:w.heap.size<=w'.heap.size)
  (a:∀b,b<w.heap.size->(∀o∈rm,∀x,σ o=some x->¬Blk κ o x b)->w'.heap[b]? =w.heap[b]?) {x:Obj'}
  (D:∀b,Blk (kapN κ nm v) c x b->(∃o∈rm,∃y,σ o=some y/\ Blk κ o y b) \/w.heap.size<=b)
  (O:jcb (kapN κ nm v) F w' c x) (hn:NBo (Un U nm) x) {σ':Objs} (t:∀o y,σ' o=some y->(o=c/\ y=x) \/(o≠c/\ o∉rm/\ σ o=some y)):
  Aft cx κ F w U (kapN κ nm v) F w' (Un U nm) σ':=by
 have H:∀o,U o->kapN κ nm v o=κ o:=jml (κ:=κ) hf v;have Z:∀b,¬(∀o∈rm,∀x,σ o=some x->¬Blk κ o x b)->∃o∈rm,∃y,σ o=some y/\ Blk κ o y b:=fun b hb=>by
  apply Classical.byContradiction;intro hc;exact hb fun o l x s d=>hc ⟨o,l,x,s,d⟩
 have C:∀b,(∃o∈rm,∃y,σ o=some y/\ Blk κ o y b)->¬F b/\ ¬cx.K b/\ cx.G b:=fun b ⟨o,_,y,i,hb⟩=>h.free o y i b hb;have q:∀b,F b->w'.heap[b]? =w.heap[b]?:=fun b hb=>a b (h.fG b hb).2 fun o l x s d=>(h.free o x s b d).1 hb;have m:∀o y,o∉rm->σ o=some y->∀b,Blk κ o y b->w'.heap[b]? =w.heap[b]?:=fun o y l i b hb=>a b (jcx h i hb) fun o' N x s d=>h.apart o y o' x i s (fun e=>l (e▸N)) b hb d;have g:∀o y,σ' o=some y->∀b,Blk (kapN κ nm v) o y b->
   (o=c/\ y=x/\ ((∃o∈rm,∃y,σ o=some y/\ Blk κ o y b) \/w.heap.size<=b)) \/(o≠c/\ o∉rm/\ σ o=some y/\ Blk κ o y b/\ b<w.heap.size):=fun o y i b hb=>by
  rcases t o y i with⟨rfl,rfl⟩|⟨u,h2,k⟩
  ·exact .inl ⟨rfl,rfl,D b hb⟩
  ·have p:=h.nb o y k;have hb':=hb.kap H p.1 p.2;exact .inr ⟨u,h2,k,hb',jcx h k hb'⟩
 refine⟨H,fun _ hb=>hb,⟨Q,r,B,f,fun b hb=>?_⟩,fun _ l=>ja3 l,?_,?_,?_,?_,fun b hb=>⟨(h.fG b hb).1,Nat.lt_of_lt_of_le (h.fG b hb).2 f⟩,h.kB,h.gB,Nat.le_trans h.bs f,h.inv.mono (fun _ hb=>hb) q,fun j M=>⟨ja3 (h.lt j M).1,(congrArg KV.v (H j (h.lt j M).1)).trans (h.lt j M).2⟩⟩
 ·rcases hb with hb|hb
  ·exact q b hb
  ·exact a b (Nat.lt_of_lt_of_le (h.kB b hb) h.bs) fun o l x s d=>(h.free o x s b d).2.1 hb
 ·intro o y i;rcases t o y i with⟨rfl,rfl⟩|⟨u,h2,k⟩
  ·exact O
  ·have p:=h.nb o y k;exact jcb.mono H (fun _ hb=>hb) q p.1 p.2 (m o y h2 k) (h.ok o y k)
 ·intro o y i;rcases t o y i with⟨rfl,rfl⟩|⟨u,h2,k⟩
  ·refine⟨?_,hn⟩;rcases z with rfl|hd
   ·exact .inr ⟨Nat.le_refl _,by omega⟩
   ·exact ja3 hd
  ·have p:=h.nb o y k;exact⟨ja3 p.1,NBo.mono (fun _ l=>ja3 l) p.2⟩
 ·intro o y i b hb;rcases g o y i b hb with⟨_,_,hb'|hb'⟩|⟨_,_,n,hb',_⟩
  ·exact C b hb'
  ·exact⟨fun hF=>by have:=(h.fG _ hF).2;omega,fun hK=>by have:=h.kB _ hK;have:=h.bs;omega,h.gB _ (Nat.le_trans h.bs hb')⟩
  ·exact h.free o y n b hb'
 ·intro o y o' I i n A b hb hb';rcases g o y i b hb with⟨u,_,h2⟩|⟨u,h2,k,Y,h5⟩
  ·rcases g o' I n b hb' with⟨E,_,_⟩|⟨E,X,J,L,g5⟩
   ·exact A (u.trans E.symm)
   ·rcases h2 with⟨V,R,W,S,T⟩|h2
    ·exact h.apart V W o' I S J (fun e=>X (e▸R)) b T L
    ·omega
  ·rcases g o' I n b hb' with⟨E,_,g2'⟩|⟨E,X,J,L,g5⟩
   ·rcases g2' with⟨V,R,W,S,T⟩|g2'
    ·exact h.apart V W o y S k (fun e=>h2 (e▸R)) b T Y
    ·omega
   ·exact h.apart o y o' I k J A b Y L

inductive Sc where
 |row (o k j:Nat)
 |obj (n:Nat)
def jd6(κ:Kap)(σ:Objs):Sc->Nat->Prop
 | .row o k j,b=>∃e es mask l g hole,σ o=some (.tab e es mask l g hole)/\ jbv mask l.length hole k j/\ blk ((κ g).r k j)=some b
 | .obj n,b=>∃x,σ n=some x/\ blk (κ n).v=some b
def Sc.o:Sc->Nat
 | .row o _ _=>o
 | .obj n=>n

theorem jd6.blk{s:Sc}{b:Nat}(h:jd6 κ σ s b):∃x,σ s.o=some x/\ Blk κ s.o x b:=by
 cases s with
 |row o k j=>
  obtain⟨e,es,mask,l,g,hole,a,c,d⟩:=h;exact⟨_,a,.inr ⟨k,j,c,d⟩⟩
 |obj n=>
  obtain⟨x,a,c⟩:=h;exact⟨x,a,.inl c⟩

theorem jgt(h:ORel cx κ F w U σ){s s':Sc}{b:Nat}(hs:jd6 κ σ s b)(p:jd6 κ σ s' b):s=s':=by
 obtain⟨x,G,hb⟩:=hs.blk;obtain⟨x',B,z⟩:=p.blk;have u:s.o=s'.o:=Classical.byContradiction fun A=>h.apart _ x _ x' G B A b hb z;cases s with
 |row o k j=>
  obtain⟨e,es,mask,l,g,hole,D,E,t⟩:=hs;have y:TabOK F w e es mask l (κ o).v (κ g).r hole:=h.ok o _ D;cases s' with
  |row o' k' j'=>
   have a:o=o':=u;subst a;obtain⟨e',es',f,l',C,d,i,q,c⟩:=p;rw[D]at i;cases i;by_cases m:(k,j)=(k',j')
   ·simp only[Prod.mk.injEq]at m;rw[m.1,m.2]
   ·exact absurd c (y.apart k j k' j' E q m b t)
  |obj n=>
   have a:o=n:=u;subst a;obtain⟨_,_,c⟩:=p;exact absurd c (y.outer k j E b t)
 |obj n=>
  cases s' with
  |row o' k' j'=>
   have a:n=o':=u;subst a;obtain⟨e',es',f,l',C,d,i,q,c⟩:=p;have y:TabOK F w e' es' f l' (κ n).v (κ C).r d:=h.ok n _ i;obtain⟨_,_,t⟩:=hs;exact absurd t (y.outer k' j' q b c)
  |obj H=>
   have a:n=H:=u;rw[a]

theorem jr1(h:ORel cx κ F w U σ){s:Sc}{b:Nat}(hs:jd6 κ σ s b):b<w.heap.size:=by
 obtain⟨x,a,hb⟩:=hs.blk;exact jcx h a hb

theorem TabOK.fresh(h:ORel cx κ F w U σ){w':World}{e:TypeId}{es:Nat}{mask:List (Option TypeId)}{l:List D}{u:Value}{hole:Option (Nat×Nat)}{us:List Value}(p:0<es)(z:mask.length<=es)
  (hc:∀(k:Nat)(d:D),l[k]? =some d->d.cells.length=es) (f:Own w' e es u l.length us)
  (cell:∀(k:Nat)(d:D)(j:Nat)(c:D),l[k]? =some d->d.cells[j]? =some c->∃x,us[k*es+j]? =some x/\ one x=true/\ match jao mask j with
   |none=>RD F w' c x
   |some e'=>hole=some (k,j) \/∃es' rows,c=.sl es' rows/\ jb7 F w' e' es' x rows)
  (src:Nat->Nat->Option Sc) (a:∀k j,jbv mask l.length hole k j->∀b,blk (us.getD (k*es+j) undef)=some b->∃s,src k j=some s/\ jd6 κ σ s b)
  (inj:∀k j k' j' s,jbv mask l.length hole k j->jbv mask l.length hole k' j'->src k j=some s->src k' j'=some s->(k,j)=(k',j'))
  (n:∀b,blk u=some b->w.heap.size<=b \/∃o,jd6 κ σ (.obj o) b/\ ∀k j,jbv mask l.length hole k j->src k j≠some (.obj o)):
  TabOK F w' e es mask l u (fun k j=>us.getD (k*es+j) undef) hole:=by
 refine⟨p,z,hc,⟨us,f,f.1,fun k d j c E hd=>?_⟩,fun k j k' j' q r A b hb y=>?_,fun k j q b hb H=>?_⟩
 ·obtain⟨x,i,m,g⟩:=cell k d j c E hd;refine⟨x,i,m,?_⟩;cases B:jao mask j with
  |none=>rw[B]at g;exact g
  |some e'=>
   rw[B]at g;simp only[]at g ⊢;exact⟨by rw[List.getD_eq_getElem?_getD,i];rfl,g⟩
 ·obtain⟨s,i,m⟩:=a k j q b hb;obtain⟨s',t,v⟩:=a k' j' r b y;have:=jgt h m v;subst this;exact A (inj k j k' j' s q r i t)
 ·obtain⟨s,i,m⟩:=a k j q b hb;rcases n b H with G|⟨o,g,C⟩
  ·have:=jr1 h m;omega
  ·have:=jgt h m g;subst this;exact C k j q i

theorem jh8:∀{cs:List D}{us:List Value},us.length=cs.length->(∀(j:Nat)(c:D),cs[j]? =some c->∃x,us[j]? =some x/\ one x=true/\ RD F w c x)->RC F w cs us
 |[],us,a,_=>by unfold RC;exact List.eq_nil_of_length_eq_zero (by simpa using a)
 |c::cs,[],a,_=>by simp at a
 |c::cs,u::us,a,h=>by
  obtain⟨x,b,d,e⟩:=h 0 c (by simp);simp at b;subst b;unfold RC;exact⟨u,us,rfl,d,e,jh8 (by simpa using a) fun j c f=>by simpa using h (j+1) c (by simpa using f)⟩
theorem jh7{es:Nat}:∀{l:List D}{us:List Value},us.length=l.length*es->(∀(k:Nat)(d:D),l[k]? =some d->d.cells.length=es)->
  (∀(k:Nat)(d:D)(j:Nat)(c:D),l[k]? =some d->d.cells[j]? =some c->∃x,us[k*es+j]? =some x/\ one x=true/\ RD F w c x)->RE F w es l us
 |[],us,m,_,_=>by unfold RE;exact List.eq_nil_of_length_eq_zero (by simpa using m)
 |d::l,us,m,hc,h=>by
  simp only[List.length_cons,Nat.add_mul,Nat.one_mul]at m;have hd:=hc 0 d (by simp);have e:us=us.take es++us.drop es:=(List.take_append_drop es us).symm;rw[e];refine RE.mk (by rw[List.length_take];omega) (jh8 (by rw[List.length_take];omega) fun j c b=>?_) (jh7 (by rw[List.length_drop];omega) (fun k d i=>hc (k+1) d (by simpa using i)) fun k d j c i b=>?_)
  ·obtain⟨x,a,f⟩:=h 0 d j c (by simp) b;rw[Nat.zero_mul,Nat.zero_add]at a;have g:j<es:=by rw[<-hd];exact(List.getElem?_eq_some_iff.1 b).1
   exact⟨x,by rw[List.getElem?_take_of_lt g];exact a,f⟩
  ·obtain⟨x,a,f⟩:=h (k+1) d j c (by simpa using i) b;refine⟨x,?_,f⟩;rw[List.getElem?_drop,<-a];congr 1;rw[Nat.add_mul,Nat.one_mul];omega

theorem jf1{e:TypeId}{es:Nat}{u:Value}{l:List D}{us:List Value}{F':Nat->Prop}(hb:∀b,blk u=some b->F' b)(a:Own w e es u l.length us)(h:RE F' w es l us):RD F' w (.sl es l) u:=by
 unfold RD;rcases a.2 with⟨c,i⟩|⟨g,f,d,k,c,p,m,n,q,r⟩
 ·exact⟨none,0,by rw[c,i],by omega,by unfold maxLen;omega,fun _=>rfl,.inl (List.eq_nil_of_length_eq_zero i)⟩
 ·refine⟨some ⟨g,f,none⟩,d,c,m,n,by simp,.inr ⟨g,f,us,rfl,hb g (by rw[c];rfl),a.1,fun j v o=>?_,h⟩⟩;exact a.cells c j v o

theorem TabOK.re{e:TypeId}{es:Nat}{mask:List (Option TypeId)}{l:List D}{u:Value}{r:Nat->Nat->Value}{F':Nat->Prop}(h:TabOK F w e es mask l u r none)(hF:∀b,F b->F' b)
  (t:∀k j,jbv mask l.length none k j->∀b,blk (r k j)=some b->F' b):∃us,Own w e es u l.length us/\ RE F' w es l us:=by
 obtain⟨us,g,s,hc⟩:=h.mem;refine⟨us,g,jh7 s h.cells fun k d j c o hd=>?_⟩;obtain⟨x,p,q,a⟩:=hc k d j c o hd;refine⟨x,p,q,?_⟩;cases n:jao mask j with
 |none=>rw[n]at a;exact RD.mono hF (fun _ _=>rfl) a
 |some e'=>
  rw[n]at a;simp only[]at a;rcases a with⟨v,a|⟨es',rows,m,y,f,i,_⟩⟩
  ·cases a
  ·subst m;subst v;exact jf1 (t k j ⟨(List.getElem?_eq_some_iff.1 o).1,by rw[n];rfl,by simp⟩) f (RE.mono hF (fun _ _=>rfl) i)

theorem jr0(h:ORel cx κ F w U σ){F':Nat->Prop}(hF:∀b,F b->F' b){o es:Nat}{x:Obj'}{l:List D}(n:σ o=some x)(hs:x.sl=some (es,l))(hb:∀b,Blk κ o x b->F' b):RD F' w (.sl es l) (κ o).v:=by
 have f:=h.ok o x n;cases x with
 |box T l=>cases hs
 |bld T E l g=>cases hs
 |mp t l=>cases hs
 |arr e es' l'=>
  simp only[Obj'.sl,Option.some.injEq,Prod.mk.injEq]at hs;obtain⟨rfl,rfl⟩:=hs;obtain⟨us,c,d,_⟩:=f;exact jf1 (fun b a=>hb b (.inl a)) c (RE.mono hF (fun _ _=>rfl) d)
 |tab e es' mask l' g hole=>
  cases hole with
  |some p=>cases hs
  |none=>
   simp only[Obj'.sl,Option.some.injEq,Prod.mk.injEq]at hs;obtain⟨rfl,rfl⟩:=hs;have m:TabOK F w e es' mask l' (κ o).v (κ g).r none:=f;obtain⟨us,c,d⟩:=m.re hF fun k j i b a=>hb b (.inr ⟨k,j,i,a⟩);exact jf1 (fun b a=>hb b (.inl a)) c d
theorem jen{o es:Nat}{l:List D}(h:slO σ o=some (es,l)):∃x,σ o=some x/\ x.sl=some (es,l):=by
 unfold slO at h;split at h
 ·rename_i x a;exact⟨x,a,h⟩
 ·cases h

end
end Go.Ab
