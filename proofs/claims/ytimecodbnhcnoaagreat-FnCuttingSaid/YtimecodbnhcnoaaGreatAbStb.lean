/- My own layer: plain lemmas about models: loops, lists, numbers. -/
import Derived.Test.YtimecodbnhcnoaaGreatAbEx5
namespace Go.Ab
set_option linter.unusedVariables false
set_option linter.unusedSimpArgs false

theorem jb5{A B:Type}{step:A->Option (Lp A B)}(I:Nat->A->Prop)(Q:B->Prop)
  (h:∀k a,I k a->(∃a' k',step a=some (.nx a')/\ k'<k/\ I k' a') \/(∃b,step a=some (.dn b)/\ Q b)):∀{k a},I k a->∃b,iter step a=some b/\ Q b:=by
 intro k
 induction k using Nat.strongRecOn with
 |_ k i=>
  intro a g;rcases h k a g with⟨a',k',d,e,f⟩|⟨b,d,e⟩
  ·rw[jgb d];exact i k' e f
  ·exact⟨b,je5 d,e⟩

theorem jal{α:Type}(l:List α)(i:Nat):idx l (i:Int)=l[i]?:=by
 unfold idx;rw[if_pos (by omega)];simp
theorem jlm{α:Type}{l:List α}{i:Int}{x:α}(h0:0<=i)(h:l[i.toNat]? =some x):idx l i=some x:=by
 unfold idx;rw[if_pos h0];exact h
theorem jdu{α:Type}{l:List α}{i:Int}(h0:0<=i)(h:i<l.length):∃x,idx l i=some x/\ l[i.toNat]? =some x/\ x∈l:=by
 have a:i.toNat<l.length:=by omega
 refine⟨l[i.toNat],jlm h0 (List.getElem?_eq_getElem a),List.getElem?_eq_getElem a,List.getElem_mem a⟩
theorem ja9{p:Prop}[Decidable p](h:p):chk p=some ():=by unfold chk;rw[if_pos h]
@[simp] theorem jco{R V:Type}(u:V)(k:V->Option R):flb (some (.go u)) k=k u:=rfl
@[simp] theorem jdp{R V:Type}(r:R)(k:V->Option R):flb (some (Fl.ret r:Fl R V)) k=some r:=rfl
theorem jah{n:Nat}(h:n<9223372036854775807):w64 ((n:Int)+1)=((n+1:Nat):Int):=by rw[jak (by omega)];omega
theorem jff{n:Nat}(h:n<9223372036854775807):w64 (((n+1:Nat):Int)-1)=(n:Int):=by rw[jak (by omega)];omega
theorem jta(x:Int):0<=IntKind.u64.wrap x/\ IntKind.u64.wrap x<18446744073709551616:=by
 rw[IntKind.wrap_u64];omega
theorem ju2(x:Int):0<=w64 (IntKind.u64.wrap ((BitVec.ofInt (IntKind.u64).bits x&&&BitVec.ofInt (IntKind.u64).bits 255).toNat:Int))/\ w64 (IntKind.u64.wrap ((BitVec.ofInt (IntKind.u64).bits x&&&BitVec.ofInt (IntKind.u64).bits 255).toNat:Int))<=255:=by
 have h:(BitVec.ofInt (IntKind.u64).bits x&&&BitVec.ofInt (IntKind.u64).bits 255).toNat<=255:=by
  rw[BitVec.toNat_and];have:(BitVec.ofInt (IntKind.u64).bits 255).toNat=255:=by decide
  rw[this];exact Nat.and_le_right
 have a:IntKind.u64.wrap ((BitVec.ofInt (IntKind.u64).bits x&&&BitVec.ofInt (IntKind.u64).bits 255).toNat:Int)=((BitVec.ofInt (IntKind.u64).bits x&&&BitVec.ofInt (IntKind.u64).bits 255).toNat:Int):=by
  rw[IntKind.wrap_u64];omega
 rw[a,jak (by omega)];omega
theorem jjk{a b:Int}(d:0<=a)(e:0<b):0<=a.tmod b/\ a.tmod b<b:=⟨Int.tmod_nonneg b d,Int.tmod_lt_of_pos a e⟩
theorem jap{α:Type}{l:List α}{i:Nat}{x:α}(h:l[i]? =some x):l.take (i+1)=l.take i++[x]:=by
 rw[List.take_add_one,h];rfl
theorem jaj{α:Type}{l:List α}{i:Nat}(h:i<l.length):∃x,l[i]? =some x:=⟨_,List.getElem?_eq_getElem h⟩
theorem jpa{l:List Int}{M:Int}(h:∀x∈l,0<=x/\ x<=M):0<=l.sum/\ l.sum<=M*l.length:=by
 induction l with
 |nil=>simp
 |cons a l d=>
  have e:=h a (List.mem_cons_self ..);have f:=d fun x b=>h x (List.mem_cons_of_mem _ b);simp only[List.sum_cons,List.length_cons,Int.natCast_add,Int.mul_add];simp only[Int.natCast_one,Int.mul_one];omega
theorem jry{α:Type}(f:α->Int)(l:List α)(u:l.length<=1000000)(hb:∀x∈l,0<=f x/\ f x<=1000000){step:Int×Int->Option (Lp (Int×Int) Int)}
  (d:∀(i:Nat)(s:Int)(x:α),l[i]? =some x->step (s,(i:Int))=some (.nx (w64 (s+f x),w64 ((i:Int)+1)))) (g:∀s,step (s,(l.length:Int))=some (.dn s)):
  iter step (0,0)=some ((l.map f).sum):=by
 have bd:∀i,0<=((l.take i).map f).sum/\ ((l.take i).map f).sum<=1000000*1000000:=by
  intro i;have:=jpa (l:=(l.take i).map f) (M:=1000000) (by
   intro x j;obtain⟨y,r,rfl⟩:=List.mem_map.1 j;exact hb y (List.mem_of_mem_take r))
  have t:(((l.take i).map f).length:Int)<=1000000:=by simp;omega
  omega
 have h:=jb5 (step:=step) (fun m a=>∃i:Nat,a.2=(i:Int)/\ m+i=l.length/\ a.1=((l.take i).map f).sum) (fun b=>b=(l.map f).sum) ?_ (k:=l.length) (a:=(0,0)) ⟨0,rfl,by omega,by simp⟩
 ·obtain⟨b,hb,rfl⟩:=h;exact hb
 rintro m ⟨s,v⟩ ⟨i,o,w,hs⟩;simp only at o hs;subst o;by_cases n:i<l.length
 ·left;obtain⟨x,j⟩:=jaj n;have q:=hb x (List.mem_of_getElem? j);have p:=bd i;refine⟨_,m-1,d i s x j,by omega,i+1,?_,by omega,?_⟩
  ·exact jah (by omega)
  ·show w64 (s+f x)=_;rw[jak (by omega),jap j,hs];simp
 ·right;have e:i=l.length:=by omega
  subst e;exact⟨s,g s,by rw[hs,List.take_length]⟩
end Go.Ab
namespace Go.Ab
set_option linter.unusedVariables false
set_option linter.unusedSimpArgs false

def fixI{α:Type}(p:α->Bool)(l:List α):Int:=match l.findIdx? p with
 |some i=>(i:Int)
 |none=> -1
theorem jlr{α:Type}{p:α->Bool}{l:List α}{i:Nat}(h:fixI p l=(i:Int)):l.findIdx? p=some i:=by
 unfold fixI at h;split at h
 ·rename_i j a;rw[a];congr 1;omega
 ·omega
theorem jtx{α:Type}{p:α->Bool}{l:List α}{i:Nat}(h:fixI p l=(i:Int)):∃x,l[i]? =some x/\ p x=true/\ ∀j y,j<i->l[j]? =some y->p y=false:=by
 have:=jlr h;rw[List.findIdx?_eq_some_iff_getElem]at this;obtain⟨b,d,e⟩:=this;refine⟨_,List.getElem?_eq_getElem b,d,fun j y g m=>?_⟩;have f:=e j g;obtain⟨k,a⟩:=List.getElem?_eq_some_iff.1 m;subst a;simpa using f
theorem jtw{α:Type}{p:α->Bool}{l:List α}{i:Nat}{x:α}(h:l[i]? =some x)(d:p x=true)(b:∀(j:Nat) y,j<i->l[j]? =some y->p y=false):fixI p l=(i:Int):=by
 obtain⟨hi,e⟩:=List.getElem?_eq_some_iff.1 h;have:l.findIdx? p=some i:=by
  rw[List.findIdx?_eq_some_iff_getElem];refine⟨hi,by rw[e];exact d,fun j a=>?_⟩;have:=b j _ a (List.getElem?_eq_getElem (by omega));simp[this]
 unfold fixI;rw[this]
theorem jsg{α:Type}{p:α->Bool}{l:List α}(h:fixI p l<0):∀x∈l,p x=false:=by
 unfold fixI at h;split at h
 ·omega
 ·rename_i a;exact List.findIdx?_eq_none_iff.1 a
theorem jsh{α β:Type}(f:α->β)(p:β->Bool)(l:List α):fixI p (l.map f)=fixI (fun x=>p (f x)) l:=by
 unfold fixI;rw[List.findIdx?_map];rfl
theorem jgd{α:Type}{p q:α->Bool}(l:List α)(h:∀x,p x=q x):fixI p l=fixI q l:=by
 have:p=q:=funext h;rw[this]

theorem jls{α R:Type}(l:List α)(p:α->Bool)(f:Nat->R){step:Int->Option (Lp Int (Fl R Unit))}
  (d:∀(i:Nat) x,l[i]? =some x->step (i:Int)=some (if p x=true then .dn (.ret (f i))else .nx ((i+1:Nat):Int))) (n:step (l.length:Int)=some (.dn (.go ()))):
  iter step 0=some (match l.findIdx? p with|some i=>.ret (f i)|none=>.go ()):=by
 have h:=jb5 (step:=step) (fun m v=>∃i:Nat,v=(i:Int)/\ m+i=l.length/\ ∀j y,j<i->l[j]? =some y->p y=false) (fun b=>b=match l.findIdx? p with|some i=>.ret (f i)|none=>.go ()) ?_ (k:=l.length) (a:=0) ⟨0,rfl,by omega,fun j y o=>by omega⟩
 ·obtain⟨b,hb,rfl⟩:=h;exact hb
 rintro m v ⟨i,rfl,w,r⟩;by_cases t:i<l.length
 ·obtain⟨x,g⟩:=jaj t;by_cases q:p x=true
  ·right;refine⟨_,by rw[d i x g,if_pos q],?_⟩;rw[jlr (jtw g q r)]
  ·left;refine⟨_,m-1,by rw[d i x g,if_neg q],by omega,i+1,rfl,by omega,fun j y o u=>?_⟩;by_cases s:j<i
   ·exact r j y s u
   ·have:j=i:=by omega
    subst this;rw[g]at u;cases u;simpa using q
 ·right;have e:i=l.length:=by omega
  subst e;refine⟨_,n,?_⟩;have:l.findIdx? p=none:=List.findIdx?_eq_none_iff.2 fun x g=>by
   obtain⟨j,o⟩:=List.getElem?_of_mem g;exact r j x (List.getElem?_eq_some_iff.1 o).1 o
  rw[this]
theorem jd4{α:Type}(l:List α)(p:α->Bool){step:Int->Option (Lp Int (Fl Int Unit))}
  (a:∀(i:Nat) x,l[i]? =some x->step (i:Int)=some (if p x=true then .dn (.ret (i:Int))else .nx ((i+1:Nat):Int))) (b:step (l.length:Int)=some (.dn (.go ()))):
  flb (iter step 0) (fun(_:Unit)=>some (-1))=some (fixI p l):=by
 rw[jls l p (fun i=>(i:Int)) a b];unfold fixI;cases l.findIdx? p<;>rfl

theorem jsl{α:Type}(l:List α)(ok:Nat->α->Prop)(r:Int)(d:Nat)(u:r=(d:Int))(B:d<=l.length){step:Int->Option (Lp Int (Fl Bool Unit))}
  (n:∀(i:Nat) x,d<=i->l[i]? =some x->(step (i:Int)=some (.nx ((i+1:Nat):Int))/\ ok i x) \/(step (i:Int)=some (.dn (.ret false))/\ ¬ok i x)) (p:step (l.length:Int)=some (.dn (.go ()))):
  (iter step r=some (.go ())/\ ∀(i:Nat) x,d<=i->l[i]? =some x->ok i x) \/(iter step r=some (.ret false)/\ ¬∀(i:Nat) x,d<=i->l[i]? =some x->ok i x):=by
 have h:=jb5 (step:=step) (fun m v=>∃i:Nat,v=(i:Int)/\ m+i=l.length/\ d<=i/\ ∀(j:Nat) x,d<=j->j<i->l[j]? =some x->ok j x)
  (fun b=>(b=.go ()/\ ∀(i:Nat) x,d<=i->l[i]? =some x->ok i x) \/(b=.ret false/\ ¬∀(i:Nat) x,d<=i->l[i]? =some x->ok i x)) ?_ (k:=l.length-d) (a:=r) ⟨d,u,by omega,Nat.le_refl _,fun j x f q=>by omega⟩
 ·obtain⟨b,hb,⟨rfl,f⟩|⟨rfl,f⟩⟩:=h
  ·exact .inl ⟨hb,f⟩
  ·exact .inr ⟨hb,f⟩
 rintro m v ⟨i,rfl,D,A,z⟩;by_cases t:i<l.length
 ·obtain⟨x,o⟩:=jaj t;rcases n i x A o with⟨f,q⟩|⟨f,q⟩
  ·left;refine⟨_,m-1,f,by omega,i+1,rfl,by omega,by omega,fun j y g C w=>?_⟩;by_cases s:j<i
   ·exact z j y g s w
   ·have:j=i:=by omega
    subst this;rw[o]at w;cases w;exact q
  ·right;exact⟨_,f,.inr ⟨rfl,fun hc=>q (hc i x A o)⟩⟩
 ·right;have e:i=l.length:=by omega
  subst e;exact⟨_,p,.inl ⟨rfl,fun j x g o=>z j x g (List.getElem?_eq_some_iff.1 o).1 o⟩⟩
theorem all_loop{α:Type}(l:List α)(ok:Nat->α->Prop){step:Int->Option (Lp Int (Fl Bool Unit))}
  (a:∀(i:Nat) x,l[i]? =some x->(step (i:Int)=some (.nx ((i+1:Nat):Int))/\ ok i x) \/(step (i:Int)=some (.dn (.ret false))/\ ¬ok i x)) (b:step (l.length:Int)=some (.dn (.go ()))) (e:Int) (d:Nat) (g:e=(d:Int)) (f:d<=l.length):
  (iter step e=some (.go ())/\ ∀(i:Nat) x,d<=i->l[i]? =some x->ok i x) \/(iter step e=some (.ret false)/\ ¬∀(i:Nat) x,d<=i->l[i]? =some x->ok i x):=
 jsl l ok e d g f (fun i x _ j=>a i x j) b
theorem jdi{α:Type}(l:List α)(ok:Nat->α->Prop)[hd:Decidable (∀(i:Nat) x,l[i]? =some x->ok i x)]{step:Int->Option (Lp Int (Fl Bool Unit))}
  (a:∀(i:Nat) x,l[i]? =some x->(step (i:Int)=some (.nx ((i+1:Nat):Int))/\ ok i x) \/(step (i:Int)=some (.dn (.ret false))/\ ¬ok i x)) (b:step (l.length:Int)=some (.dn (.go ()))) (k:Unit->Option Bool):
  flb (iter step 0) k=if(∀(i:Nat) x,l[i]? =some x->ok i x)then k ()else some false:=by
 rcases all_loop l ok a b 0 0 rfl (by omega)with⟨d,e⟩|⟨d,e⟩
 ·rw[d,if_pos (fun i x f=>e i x (by omega) f)];rfl
 ·rw[d,if_neg (fun hc=>e fun i x _ f=>hc i x f)];rfl

theorem jq0{α β:Type}(f:α->β)(l:List α)(l0:List β)(s:l0.length=l.length){step:Int×List β->Option (Lp (Int×List β) (List β))}
  (g:∀(i:Nat)(a:List β)(x:α)(y:β),a.length=l.length->a[i]? =some y->l[i]? =some x->step ((i:Int),a)=some (.nx (((i+1:Nat):Int),a.set i (f x)))) (n:∀a,a.length=l.length->step ((l.length:Int),a)=some (.dn a)):
  iter step (0,l0)=some (l.map f):=by
 have h:=jb5 (step:=step) (fun m a=>∃i:Nat,a.1=(i:Int)/\ m+i=l.length/\ a.2.length=l.length/\ ∀(j:Nat) x,j<i->l[j]? =some x->a.2[j]? =some (f x)) (fun b=>b=l.map f) ?_ (k:=l.length) (a:=(0,l0)) ⟨0,rfl,by omega,s,fun j x q=>by omega⟩
 ·obtain⟨b,hb,rfl⟩:=h;exact hb
 rintro m ⟨v,a⟩ ⟨i,w,B,d,r⟩;simp only at w r d;subst w;by_cases t:i<l.length
 ·left;obtain⟨x,p⟩:=jaj t;obtain⟨y,A⟩:=jaj (l:=a) (i:=i) (by omega);refine⟨_,m-1,g i a x y d A p,by omega,i+1,rfl,by omega,by simpa using d,fun j z q u=>?_⟩;show(a.set i (f x))[j]? =_;by_cases o:j=i
  ·subst o;rw[p]at u;cases u;rw[List.getElem?_set_self (by omega)]
  ·rw[List.getElem?_set_ne (Ne.symm o)];exact r j z (by omega) u
 ·right;have e:i=l.length:=by omega
  subst e;refine⟨a,n a d,?_⟩;apply List.ext_getElem?;intro j;rw[List.getElem?_map];by_cases q:j<l.length
  ·obtain⟨x,p⟩:=jaj q;rw[p,r j x q p];rfl
  ·rw[List.getElem?_eq_none (by omega),List.getElem?_eq_none (by omega)];rfl
theorem jsk{α β:Type}(f:α->β)(l:List α){step:Int×List β->Option (Lp (Int×List β) (List β))}
  (d:∀(i:Nat)(a:List β)(x:α),a.length=i->l[i]? =some x->step ((i:Int),a)=some (.nx (((i+1:Nat):Int),a++[f x]))) (g:∀a,a.length=l.length->step ((l.length:Int),a)=some (.dn a)):
  iter step (0,[])=some (l.map f):=by
 have h:=jb5 (step:=step) (fun m a=>∃i:Nat,a.1=(i:Int)/\ m+i=l.length/\ a.2=(l.take i).map f) (fun b=>b=l.map f) ?_ (k:=l.length) (a:=(0,[])) ⟨0,rfl,by omega,by simp⟩
 ·obtain⟨b,hb,rfl⟩:=h;exact hb
 rintro m ⟨v,a⟩ ⟨i,p,r,j⟩;simp only at p j;subst p;have o:a.length=min i l.length:=by rw[j];simp
 by_cases n:i<l.length
 ·left;obtain⟨x,q⟩:=jaj n;refine⟨_,m-1,d i a x (by omega) q,by omega,i+1,rfl,by omega,?_⟩;show a++[f x]=_;rw[jap q,j];simp
 ·right;have e:i=l.length:=by omega
  subst e;exact⟨a,g a (by omega),by rw[j,List.take_length]⟩
end Go.Ab
namespace Go.Ab
set_option linter.unusedVariables false
set_option linter.unusedSimpArgs false
def Tot{α:Type}(m:Option α)(Q:α->Prop):Prop:=∃a,m=some a/\ Q a
theorem Tot.ok{α:Type}{a:α}{Q:α->Prop}(h:Q a):Tot (some a) Q:=⟨a,rfl,h⟩
theorem Tot.mono{α:Type}{m:Option α}{P Q:α->Prop}(h:Tot m P)(e:∀a,P a->Q a):Tot m Q:=by
 obtain⟨a,b,d⟩:=h;exact⟨a,b,e a d⟩
theorem Tot.bind{α β:Type}{m:Option α}{k:α->Option β}{Q:β->Prop}(h:Tot m fun a=>Tot (k a) Q):Tot (m.bind k) Q:=by
 obtain⟨a,rfl,b⟩:=h;exact b
theorem Tot.call{α β:Type}{m:Option α}{k:α->Option β}{P:α->Prop}{Q:β->Prop}(h:Tot m P)(b:∀a,P a->Tot (k a) Q):Tot (m.bind k) Q:=.bind (h.mono b)
theorem Tot.eq{α β:Type}{m:Option α}{a:α}{k:α->Option β}{Q:β->Prop}(h:m=some a)(b:Tot (k a) Q):Tot (m.bind k) Q:=by subst h;exact b
theorem Tot.ite{α:Type}{c:Bool}{a b:Option α}{Q:α->Prop}(d:c=true->Tot a Q)(e:c=false->Tot b Q):Tot (if c=true then a else b) Q:=by
 cases c
 ·simpa using e rfl
 ·simpa using d rfl
theorem Tot.iteP{α:Type}{c:Prop}[Decidable c]{a b:Option α}{Q:α->Prop}(d:c->Tot a Q)(e:¬c->Tot b Q):Tot (if decide c=true then a else b) Q:=
 .ite (fun h=>d (of_decide_eq_true h)) (fun h=>e (of_decide_eq_false h))
theorem Tot.iteN{α:Type}{c:Prop}[Decidable c]{a b:Option α}{Q:α->Prop}(d:¬c->Tot a Q)(e:c->Tot b Q):Tot (if(!decide c)=true then a else b) Q:=
 .ite (fun h=>d (by simpa using h)) (fun h=>e (by simpa using h))
theorem Tot.chk{β:Type}{p:Prop}[Decidable p]{k:Unit->Option β}{Q:β->Prop}(h:p)(a:Tot (k ()) Q):Tot ((Ab.chk p).bind k) Q:=.eq (ja9 h) a
theorem Tot.idx{α β:Type}{l:List α}{i:Int}{k:α->Option β}{Q:β->Prop}(h0:0<=i)(h:i<l.length)(d:∀x,l[i.toNat]? =some x->Tot (k x) Q):Tot ((Ab.idx l i).bind k) Q:=by
 obtain⟨x,a,b,_⟩:=jdu h0 h;exact .eq a (d x b)
theorem Tot.flb{R V:Type}{m:Option (Fl R V)}{k:V->Option R}{Q:R->Prop}(h:Tot m fun v=>(∀r,v=.ret r->Q r)/\ ∀u,v=.go u->Tot (k u) Q):Tot (Ab.flb m k) Q:=by
 obtain⟨v,rfl,a,b⟩:=h;cases v with
 |ret r=>exact⟨r,rfl,a r rfl⟩
 |go u=>exact b u rfl
theorem Tot.iter{A B:Type}{step:A->Option (Lp A B)}(I:Nat->A->Prop){Q:B->Prop}{n:Nat}{a:A}(h0:I n a)
  (h:∀k a,I k a->Tot (step a) fun r=>(∀a',r=.nx a'->∃k',k'<k/\ I k' a')/\ ∀b,r=.dn b->Q b):Tot (Ab.iter step a) Q:=by
 refine jb5 I Q (fun k a j=>?_) h0;obtain⟨r,d,g,i⟩:=h k a j;cases r with
 |nx a'=>
  obtain⟨k',e,f⟩:=g a' rfl;exact .inl ⟨a',k',d,e,f⟩
 |dn b=>exact .inr ⟨b,d,i b rfl⟩
theorem Tot.nx{A B:Type}{a:A}{P:A->Prop}{Q:B->Prop}(h:P a):Tot (some (Lp.nx a:Lp A B)) fun r=>(∀a',r=.nx a'->P a')/\ ∀b,r=.dn b->Q b:=
 ⟨_,rfl,fun a' e=>by cases e;exact h,fun b e=>by cases e⟩
theorem Tot.dn{A B:Type}{b:B}{P:A->Prop}{Q:B->Prop}(h:Q b):Tot (some (Lp.dn b:Lp A B)) fun r=>(∀a',r=.nx a'->P a')/\ ∀b,r=.dn b->Q b:=
 ⟨_,rfl,fun a' e=>(by cases e),fun a e=>(by cases e;exact h)⟩
theorem Tot.go{R V:Type}{u:V}{P:R->Prop}{Q:V->Prop}(h:Q u):Tot (some (Fl.go u:Fl R V)) fun v=>(∀r,v=.ret r->P r)/\ ∀u,v=.go u->Q u:=
 ⟨_,rfl,fun r e=>(by cases e),fun a e=>by cases e;exact h⟩
theorem Tot.ret{R V:Type}{r:R}{P:R->Prop}{Q:V->Prop}(h:P r):Tot (some (Fl.ret r:Fl R V)) fun v=>(∀r,v=.ret r->P r)/\ ∀u,v=.go u->Q u:=
 ⟨_,rfl,fun a e=>(by cases e;exact h),fun b e=>by cases e⟩
theorem Tot.val{α:Type}{m:Option α}{a:α}(h:Tot m (· =a)):m=some a:=by obtain⟨x,b,rfl⟩:=h;exact b
theorem Tot.of{α:Type}{m:Option α}{a:α}{Q:α->Prop}(h:m=some a)(b:Q a):Tot m Q:=⟨a,h,b⟩
theorem ixs{α:Type}{l:List α}{i:Nat}{x:α}(h:l[i]? =some x):Ab.idx l (i:Int)=some x:=(jal l i).trans h
theorem ja7{α:Type}{l:List α}{i:Nat}{x:α}(h:l[i]? =some x):i<l.length:=(List.getElem?_eq_some_iff.1 h).1
theorem jm7{α:Type}{l:List α}{i:Nat}{x:α}(h:l[i]? =some x):l.set i x=l:=by
 obtain⟨a,b⟩:=List.getElem?_eq_some_iff.1 h;subst b;exact List.set_getElem_self a
theorem jk4{α:Type}{l:List α}{i:Nat}{x y:α}(h:l[i]? =some x):(l.set i y)[i]? =some y:=List.getElem?_set_self (ja7 h)
theorem jtq{A A' B i:Type}{step:A->Option (Lp A B)}{step':A'->Option (Lp A' i)}(I:Nat->A->A'->Prop)(T:B->i->Prop)
  (h:∀k a a',I k a a'->(∃b d k',step a=some (.nx b)/\ step' a'=some (.nx d)/\ k'<k/\ I k' b d) \/∃x x',step a=some (.dn x)/\ step' a'=some (.dn x')/\ T x x'):
  ∀{k a a'},I k a a'->∃x x',Ab.iter step a=some x/\ Ab.iter step' a'=some x'/\ T x x':=by
 intro k
 induction k using Nat.strongRecOn with
 |_ k m=>
  intro a a' l;rcases h k a a' l with⟨b,d,k',e,f,g,j⟩|⟨x,x',e,f,g⟩
  ·rw[jgb e,jgb f];exact m k' g j
  ·exact⟨x,x',je5 e,je5 f,g⟩
theorem je8{P:Prop}[Decidable P]{m:Option (Fl Bool Unit)}(h:Tot m fun b=>(b=.go ()/\ P) \/(b=.ret false/\ ¬P)):Ab.flb m (fun _=>some true)=some (decide P):=by
 obtain⟨b,rfl,⟨rfl,a⟩|⟨rfl,a⟩⟩:=h
 ·simp[a]
 ·simp[a]
theorem jkc{α:Type}{l:List α}{i:Int}{x:α}(h:Ab.idx l i=some x):0<=i/\ i<l.length/\ l[i.toNat]? =some x:=by
 unfold Ab.idx at h;split at h
 ·have:=ja7 h;exact⟨by omega,by omega,h⟩
 ·cases h
theorem jmp{α:Type}{p:α->Bool}{l:List α}(h:¬fixI p l<0):∃(k:Nat)(x:α),fixI p l=(k:Int)/\ l[k]? =some x/\ p x=true/\ ∀j y,j<k->l[j]? =some y->p y=false:=by
 have e:fixI p l=((fixI p l).toNat:Int):=by omega
 obtain⟨x,a,b,d⟩:=jtx e;exact⟨_,x,e,a,b,d⟩
theorem jjo{l:List Int}{i:Nat}{x:Int}(h:l[i]? =some x):(l.take (i+1)).sum=(l.take i).sum+x:=by
 rw[jap h];simp
theorem joc{l:List Int}(h:∀x∈l,0<=x):0<=l.sum:=by
 induction l with
 |nil=>simp
 |cons a l d=>
  have e:=h a (List.mem_cons_self ..);have f:=d fun x b=>h x (List.mem_cons_of_mem _ b);simp only[List.sum_cons];omega
theorem jmu{α β γ:Type}(m:Option α)(f:α->Option β)(g:β->Option γ):(m.bind fun x=>(f x).bind g)=(m.bind f).bind g:=by cases m<;>rfl
end Go.Ab
namespace Go.Ab.Pdq
set_option linter.unusedVariables false
set_option linter.unusedSimpArgs false
set_option maxRecDepth 100000
set_option linter.unusedVariables false
noncomputable def insertionSort_L1{α:Type}(a:Int)(cmp:α->α->Option (Int)):Int×(List α)->Option (Lp (Int×(List α)) ((List α)))
 |(d,b)=>
  (if(decide (a<d))=true then(idx b d).bind fun i=>
  (idx b (w64 (d-1))).bind fun j=>
  (cmp i j).bind fun l=>
  some (decide (l<0))else some false).bind fun(m:Bool)=>
  if m=true then
   (idx b (w64 (d-1))).bind fun e=>
   (idx b d).bind fun k=>
   (idx b d).bind fun f=>
   (idx (b.set d.toNat e) (w64 (d-1))).bind fun g=>
   some (.nx ((w64 (d-1)),((b.set d.toNat e).set (w64 (d-1)).toNat k)))
  else
   some (.dn b)
noncomputable def insertionSort_L2{α:Type}(a:Int)(b:Int)(cmp:α->α->Option (Int)):Int×(List α)->Option (Lp (Int×(List α)) ((List α)))
 |(v,d)=>
  if(decide (v<b))=true then
   (iter (insertionSort_L1 a cmp) (v,d)).bind fun(e:List α)=>
   some (.nx ((w64 (v+1)),e))
  else
   some (.dn d)
noncomputable def insertionSort{α:Type}(d:List α)(a:Int)(b:Int)(cmp:α->α->Option (Int)):Option ((List α)):=
 iter (insertionSort_L2 a b cmp) ((w64 (a+1)),d)
noncomputable def jhc{α:Type}(hi:Int)(first:Int)(cmp:α->α->Option (Int)):Int×(List α)->Option (Lp (Int×(List α)) ((List α)))
 |(v,a)=>
  if(decide (hi<=(w64 ((w64 (2*v))+1))))=true then
   some (.dn a)
  else
   ((if(decide ((w64 ((w64 ((w64 (2*v))+1))+1))<hi))=true then(idx a (w64 (first+(w64 ((w64 (2*v))+1))))).bind fun i=>
   (idx a (w64 ((w64 (first+(w64 ((w64 (2*v))+1))))+1))).bind fun j=>
   (cmp i j).bind fun m=>
   some (decide (m<0))else some false).bind fun(o:Bool)=>
   if o=true then
    some (w64 ((w64 ((w64 (2*v))+1))+1))
   else
    some (w64 ((w64 (2*v))+1))).bind fun(d:Int)=>
   (idx a (w64 (first+v))).bind fun k=>
   (idx a (w64 (first+d))).bind fun l=>
   (cmp k l).bind fun n=>
   if(!(decide (n<0)))=true then
    some (.dn a)
   else
    (idx a (w64 (first+d))).bind fun b=>
    (idx a (w64 (first+v))).bind fun e=>
    (idx a (w64 (first+v))).bind fun f=>
    (idx (a.set (w64 (first+v)).toNat b) (w64 (first+d))).bind fun g=>
    some (.nx (d,((a.set (w64 (first+v)).toNat b).set (w64 (first+d)).toNat e)))
noncomputable def jgs{α:Type}(a:List α)(lo:Int)(hi:Int)(first:Int)(cmp:α->α->Option (Int)):Option ((List α)):=
 iter (jhc hi first cmp) (lo,a)
noncomputable def jhw{α:Type}(a:Int)(b:Int)(cmp:α->α->Option (Int)):Int×(List α)->Option (Lp (Int×(List α)) ((List α)))
 |(v,d)=>
  if(decide (0<=v))=true then
   (jgs d v (w64 (b-a)) a cmp).bind fun r=>
   some (.nx ((w64 (v-1)),r))
  else
   some (.dn d)
noncomputable def jhv{α:Type}(a:Int)(cmp:α->α->Option (Int)):Int×(List α)->Option (Lp (Int×(List α)) ((List α)))
 |(d,b)=>
  if(decide (0<=d))=true then
   (idx b (w64 (a+d))).bind fun e=>
   (idx b a).bind fun f=>
   (idx b a).bind fun i=>
   (idx (b.set a.toNat e) (w64 (a+d))).bind fun j=>
   (jgs ((b.set a.toNat e).set (w64 (a+d)).toNat f) 0 d a cmp).bind fun g=>
   some (.nx ((w64 (d-1)),g))
  else
   some (.dn b)
noncomputable def jnm{α:Type}(e:List α)(a:Int)(b:Int)(cmp:α->α->Option (Int)):Option ((List α)):=
 (chk ((2:Int)≠0)).bind fun u=>
 (iter (jhw a b cmp) ((w64 ((w64 ((w64 (b-a))-1)).tdiv 2)),e)).bind fun(d:List α)=>
 iter (jhv a cmp) ((w64 ((w64 (b-a))-1)),d)
end Go.Ab.Pdq
namespace Go.Ab.Pdq
set_option linter.unusedVariables false
set_option linter.unusedSimpArgs false
set_option linter.unusedVariables false
variable{α β:Type}
def At(l:List α)(i:Int)(x:α):Prop:=0<=i/\ l[i.toNat]? =some x
theorem At.lt{l:List α}{i:Int}{x:α}(h:At l i x):i<l.length:=by
 have:=ja7 h.2;have:=h.1;omega
theorem At.uniq{l:List α}{i:Int}{x y:α}(h:At l i x)(a:At l i y):x=y:=by
 have:=h.2.symm.trans a.2;cases this;rfl
theorem At.ex{l:List α}{i:Int}(h0:0<=i)(h:i<l.length):∃x,At l i x:=by
 obtain⟨x,a⟩:=jaj (l:=l) (i:=i.toNat) (by omega);exact⟨x,h0,a⟩
def swp(l:List α)(i j:Int)(x y:α):List α:=(l.set i.toNat y).set j.toNat x
theorem At.swp{l:List α}{i j:Int}{x y:α}(hi:At l i x)(d:At l j y){k:Int}{z:α}(h:At (swp l i j x y) k z):
  (k=j/\ z=x) \/(k≠j/\ k=i/\ z=y) \/(k≠i/\ k≠j/\ At l k z):=by
 obtain⟨h0,h⟩:=h;have g:=hi.lt;have m:=d.lt;have e:=hi.1;have f:=d.1
 unfold Pdq.swp at h;by_cases a:k=j
 ·subst a;rw[List.getElem?_set_self (by simp;omega)]at h;cases h;exact .inl ⟨rfl,rfl⟩
 ·rw[List.getElem?_set_ne (by omega)]at h;by_cases b:k=i
  ·subst b;rw[List.getElem?_set_self (by omega)]at h;cases h;exact .inr (.inl ⟨a,rfl,rfl⟩)
  ·rw[List.getElem?_set_ne (by omega)]at h;exact .inr (.inr ⟨b,a,h0,h⟩)
theorem jo9{l:List α}{i j:Int}{x y:α}(hi:0<=i)(f:0<=j){k:Int}{z:α}(d:k≠i)(e:k≠j):At (swp l i j x y) k z↔At l k z:=by
 unfold At swp;constructor
 ·rintro⟨a,b⟩;rw[List.getElem?_set_ne (by omega),List.getElem?_set_ne (by omega)]at b;exact⟨a,b⟩
 ·rintro⟨a,b⟩;refine⟨a,?_⟩;rw[List.getElem?_set_ne (by omega),List.getElem?_set_ne (by omega)];exact b
theorem At.swp1{l:List α}{i j:Int}{x y:α}(hi:At l i x)(a:At l j y):At (Pdq.swp l i j x y) i y:=by
 refine⟨hi.1,?_⟩;unfold Pdq.swp;have f:=hi.lt;have b:=hi.1;have d:=a.1
 by_cases e:i=j
 ·subst e;rw[List.getElem?_set_self (by simp;omega)];rw[hi.uniq a]
 ·rw[List.getElem?_set_ne (by omega),List.getElem?_set_self (by omega)]
structure R(a b:Int)(l l':List α):Prop where
 perm:l'.Perm l
 out:∀i x,i<a \/b<=i->(At l' i x↔At l i x)
 inn:∀i x,a<=i->i<b->At l' i x->∃j,a<=j/\ j<b/\ At l j x
theorem R.len{a b:Int}{l l':List α}(h:R a b l l'):l'.length=l.length:=h.perm.length_eq
theorem R.refl{a b:Int}{l:List α}:R a b l l:=⟨.refl _,fun _ _ _=>.rfl,fun i x d e h=>⟨i,d,e,h⟩⟩
theorem R.trans{a b:Int}{l l' d:List α}(h:R a b l l')(e:R a b l' d):R a b l d:=by
 refine⟨e.perm.trans h.perm,fun i x hi=>(e.out i x hi).trans (h.out i x hi),fun i x m n o=>?_⟩;obtain⟨j,f,g,k⟩:=e.inn i x m n o;exact h.inn j x f g k
theorem R.wide{a b a' d:Int}{l l':List α}(h:R a b l l')(o:a'<=a)(hb:b<=d):R a' d l l':=by
 refine⟨h.perm,fun i x hi=>h.out i x (by omega),fun i x g k e=>?_⟩;by_cases hc:i<a \/b<=i
 ·exact⟨i,g,k,(h.out i x hc).1 e⟩
 ·obtain⟨j,m,n,f⟩:=h.inn i x (by omega) (by omega) e;exact⟨j,by omega,by omega,f⟩
theorem R.swp{a b i j:Int}{l:List α}{x y:α}(hi:At l i x)(d:At l j y)(p:a<=i)(q:i<b)(r:a<=j)(s:j<b):R a b l (Pdq.swp l i j x y):=by
 have A:=hi.lt;have B:=d.lt;have u:=hi.1;have v:=d.1
 refine⟨?_,fun k z w=>jo9 u v (by omega) (by omega),fun k z n o t=>?_⟩
 ·have e:=hi.2;have f:=d.2
  obtain⟨g,e⟩:=List.getElem?_eq_some_iff.1 e;obtain⟨m,f⟩:=List.getElem?_eq_some_iff.1 f;have:=List.set_set_perm (as:=l) g m;rw[e,f]at this;exact this
 ·rcases hi.swp d t with⟨rfl,rfl⟩|⟨_,rfl,rfl⟩|⟨_,_,h⟩
  ·exact⟨i,p,q,hi⟩
  ·exact⟨j,r,s,d⟩
  ·exact⟨k,n,o,h⟩
structure Lt(cmp:α->α->Option Int)(le:α->α->Prop):Prop where
 tot:∀x y,le x y \/le y x
 trans:∀{x y z},le x y->le y z->le x z
 hc:∀x y,∃c,cmp x y=some c/\ (c<0↔¬le y x)
def Srt(le:α->α->Prop)(l:List α)(a b:Int):Prop:=∀i j x y,a<=i->i<j->j<b->At l i x->At l j y->le x y
section
variable{cmp:α->α->Option Int}{le:α->α->Prop}(h:Lt cmp le)
theorem Tot.idxA{l:List α}{i:Int}{k:α->Option β}{Q:β->Prop}(h0:0<=i)(h:i<l.length)(a:∀x,At l i x->Tot (k x) Q):Tot ((Ab.idx l i).bind k) Q:=.idx h0 h fun x b=>a x ⟨h0,b⟩
include h
theorem Lt.refl(x:α):le x x:=by rcases h.tot x x with h|h<;>exact h
theorem Lt.not{x y:α}(a:¬le y x):le x y:=by
 rcases h.tot x y with h1|h1
 ·exact h1
 ·exact absurd h1 a
theorem Tot.cm{x y:α}{k:Int->Option β}{Q:β->Prop}(d:∀c,(c<0↔¬le y x)->Tot (k c) Q):Tot ((cmp x y).bind k) Q:=by
 obtain⟨c,a,b⟩:=h.hc x y;exact .eq a (d c b)
theorem jux{c:Prop}[Decidable c]{l:List α}{i j:Int}(hi:c->0<=i/\ i<l.length)(a:c->0<=j/\ j<l.length):
  Tot (if decide c=true then(idx l i).bind fun k=>(idx l j).bind fun m=>(cmp k m).bind fun n=>some (decide (n<0))else some false)
   fun b=>(b=true->c/\ ∃x y,At l i x/\ At l j y/\ ¬le y x)/\ (b=false->c->∃x y,At l i x/\ At l j y/\ le y x):=by
 refine .iteP (fun hc=>?_) (fun hc=>.ok ⟨fun e=>(by cases e),fun _ h=>absurd h hc⟩);refine Tot.idxA (hi hc).1 (hi hc).2 fun x f=>Tot.idxA (a hc).1 (a hc).2 fun y g=>Tot.cm h fun r d=>.ok ⟨fun e=>⟨hc,x,y,f,g,d.1 (of_decide_eq_true e)⟩,fun e _=>⟨x,y,f,g,?_⟩⟩;have:=of_decide_eq_false e;rw[d]at this;exact Classical.not_not.1 this
omit h in
theorem Tot.swap{l:List α}{i j:Int}{k:α->α->Option β}{Q:β->Prop}(hi:0<=i/\ i<l.length)(a:0<=j/\ j<l.length)(e:∀x y,At l i x->At l j y->Tot (k y x) Q):
  Tot ((idx l j).bind fun b=>(idx l i).bind fun d=>(idx l i).bind fun _=>(idx (l.set i.toNat b) j).bind fun _=>k b d) Q:=
 Tot.idxA a.1 a.2 fun y g=>Tot.idxA hi.1 hi.2 fun x f=>Tot.idxA hi.1 hi.2 fun _ _=>Tot.idxA a.1 (by simp;omega) fun _ _=>e x y f g

end
end Go.Ab.Pdq
namespace Go.Ab.Pdq
set_option linter.unusedVariables false
set_option linter.unusedSimpArgs false
set_option linter.unusedVariables false
variable{α β:Type}
def Hp(le:α->α->Prop)(l:List α)(f lo hi r:Int):Prop:=∀i c x y,lo<=i->i≠r->(c=2*i+1 \/c=2*i+2)->c<hi->At l (f+i) x->At l (f+c) y->le y x
def Gp(le:α->α->Prop)(l:List α)(f lo hi r:Int):Prop:=∀p c x y,lo<=p->(r=2*p+1 \/r=2*p+2)->(c=2*r+1 \/c=2*r+2)->c<hi->At l (f+p) x->At l (f+c) y->le y x
section
variable{cmp:α->α->Option Int}{le:α->α->Prop}(h:Lt cmp le)
include h
theorem sift{f lo hi r:Int}{l0:List α}(hf:0<=f)(ad:0<=lo)(hr:lo<=r)(O:r<=4294967296)(hl:f+hi<=l0.length)(ab:0<=hi)(W:l0.length<=4294967296)(h1:Hp le l0 f lo hi r)(h2:Gp le l0 f lo hi r):
  Tot (jgs l0 r hi f cmp) fun l=>R f (f+hi) l0 l/\ Hp le l f lo hi (-1):=by
 unfold jgs;refine Tot.iter (fun m s=>m=(hi-s.1).toNat/\ lo<=s.1/\ s.1<=4294967296/\ R f (f+hi) l0 s.2/\ Hp le s.2 f lo hi s.1/\ Gp le s.2 f lo hi s.1) (n:=(hi-r).toNat) ⟨rfl,hr,O,R.refl,h1,h2⟩ ?_;rintro m ⟨v,l⟩ ⟨g1,g2,L,F,G,V⟩;dsimp only at g1 g2 L F G V;have ac:=F.len;unfold jhc;dsimp only
 simp(disch:=omega) only[jak];refine .iteP (fun hc=>.dn ⟨F,fun i c x y D J o A d a=>?_⟩) (fun hc=>?_)
 ·refine G i c x y D (fun e=>?_) o A d a;omega
 refine Tot.call (P:=fun(c:Int)=>(c=2*v+1 \/c=2*v+2)/\ c<hi/\ ∀g x y,(g=2*v+1 \/g=2*v+2)->g<hi->At l (f+g) x->At l (f+c) y->le x y) ?_ fun c M=>?_
 ·refine Tot.call (jux h (fun _=>by omega) (fun _=>by omega)) fun b hb=>.ite (fun e=>?_) (fun e=>?_)
  ·obtain⟨aa,p,q,N,E,C⟩:=hb.1 e;refine .ok ⟨.inr (by omega),by omega,fun g x y j Z d a=>?_⟩;rw[show f+(2*v+1)+1=f+(2*v+1+1)by omega]at E;cases a.uniq E;rcases j with rfl|rfl
   ·cases d.uniq N;exact h.not C
   ·rw[show f+(2*v+2)=f+(2*v+1+1)by omega]at d;cases d.uniq E;exact h.refl _
  ·refine .ok ⟨.inl rfl,by omega,fun g x y j Z d a=>?_⟩;rcases j with rfl|rfl
   ·cases d.uniq a;exact h.refl _
   ·obtain⟨p,q,N,E,B⟩:=hb.2 e (by omega);rw[show f+(2*v+1)+1=f+(2*v+2)by omega]at E;cases d.uniq E;cases a.uniq N;exact B
 ·obtain⟨X,Y,T⟩:=M;simp(disch:=omega) only[jak];refine Tot.idxA (by omega) (by omega) fun x d=>Tot.idxA (by omega) (by omega) fun y a=>Tot.cm h fun r4 H=>.iteN (fun K=>.dn ⟨F,fun i g u z D J o A t w=>?_⟩) (fun K=>?_)
  ·rw[H]at K;have B:=Classical.not_not.1 K;by_cases hi:i=v
   ·subst hi;cases t.uniq d;exact h.trans (T g _ _ o A w a) B
   ·exact G i g u z D hi o A t w
  ·have C:=h.not (H.1 K);refine Tot.swap (by omega) (by omega) fun x' y' Q S=>.nx ?_;cases d.uniq Q;cases a.uniq S;refine⟨(hi-c).toNat,by omega,rfl,by dsimp only;omega,by dsimp only;omega,F.trans (.swp d a (by omega) (by omega) (by omega) (by omega)),?_,?_⟩
   ·intro i g u z D J o A t w;dsimp only at J t w;by_cases e0:i=v
    ·subst e0;cases t.uniq (d.swp1 a);rcases d.swp a w with⟨j,rfl⟩|⟨_,j,rfl⟩|⟨_,_,k⟩
     ·exact C
     ·omega
     ·exact T g _ _ o A k a
    ·rcases d.swp a t with⟨j,rfl⟩|⟨_,j,rfl⟩|⟨_,_,I⟩
     ·omega
     ·omega
     ·rcases d.swp a w with⟨j,rfl⟩|⟨_,j,rfl⟩|⟨_,_,k⟩
      ·omega
      ·exact V i c u _ D (by omega) X Y I a
      ·exact G i g u z D e0 o A I k
   ·intro p g u z D J o A t w;dsimp only at J o t w;have e0:p=v:=by omega
    subst e0;cases t.uniq (d.swp1 a);rcases d.swp a w with⟨j,rfl⟩|⟨_,j,rfl⟩|⟨_,_,k⟩
    ·omega
    ·omega
    ·exact G c g _ _ (by omega) (by omega) o A a k
theorem jqq{f hi:Int}{l:List α}(o:0<=f)(g:Hp le l f 0 hi (-1))(p:f+hi<=l.length):∀(n:Nat)(j:Int)(x y:α),j=n->j<hi->At l f x->At l (f+j) y->le y x:=by
 intro n
 induction n using Nat.strongRecOn with
 |_ n k=>
  intro j x y m e b a;by_cases h0:j=0
  ·subst h0;rw[Int.add_zero]at a;cases b.uniq a;exact h.refl _
  ·obtain⟨z,d⟩:=At.ex (l:=l) (i:=f+(j-1)/2) (by omega) (by omega);exact h.trans (g ((j-1)/2) j z y (by omega) (by omega) (by omega) e d a) (k ((j-1)/2).toNat (by omega) ((j-1)/2) x z (by omega) (by omega) b d)
theorem heap{a b:Int}{l0:List α}(N:0<=a)(V:a<b)(X:b<=l0.length)(S:l0.length<=4294967296):
  Tot (jnm l0 a b cmp) fun l=>R a b l0 l/\ Srt le l a b:=by
 unfold jnm;refine Tot.chk (by decide) ?_;simp(disch:=omega) only[jak];have Q:(b-a-1).tdiv 2=(b-a-1)/2:=Int.tdiv_eq_ediv_of_nonneg (by omega);rw[Q];simp(disch:=omega) only[jak];refine Tot.call (P:=fun l=>R a b l0 l/\ Hp le l a 0 (b-a) (-1)) ?_ fun Y I=>?_
 ·refine Tot.iter (fun m s=>s.1+1=(m:Int)/\ s.1<=4294967295/\ R a b l0 s.2/\ Hp le s.2 a (s.1+1) (b-a) (-1)) (n:=((b-a-1)/2+1).toNat) ⟨by dsimp only;omega,by dsimp only;omega,R.refl,fun i c x y e g q t _ _=>by dsimp only at e;omega⟩ ?_;rintro m ⟨v,l⟩ ⟨L,M,C,E⟩;dsimp only at L M C E;have O:=C.len;unfold jhw;dsimp only
  simp(disch:=omega) only[jak];refine .iteP (fun hc=>?_) (fun hc=>.dn ⟨C,?_⟩)
  ·refine Tot.call (sift h N hc (Int.le_refl v) (by omega) (by omega) (by omega) (by omega) (fun i c x y e g q t A B=>E i c x y (by omega) (by omega) q t A B) (fun p c x y e g=>by omega)) fun l' d=>?_;refine .nx ⟨m-1,by omega,by dsimp only;omega,by dsimp only;omega,C.trans (d.1.wide (by omega) (by omega)),?_⟩;dsimp only
   rw[show v-1+1=v by omega];exact d.2
  ·rw[show v+1=0 by omega]at E;exact E
 ·refine Tot.iter (fun m s=>s.1+1=(m:Int)/\ s.1<b-a/\ R a b l0 s.2/\ Hp le s.2 a 0 (s.1+1) (-1)/\ ∀i j x y,a<=i->i<j->a+s.1<j->j<b->At s.2 i x->At s.2 j y->le x y) (n:=(b-a).toNat) ⟨by dsimp only;omega,by dsimp only;omega,I.1,?_,fun i j x y e g q t _ _=>by dsimp only at q;omega⟩ ?_
  ·dsimp only
   rw[show b-a-1+1=b-a by omega];exact I.2
  rintro m ⟨v,l⟩ ⟨L,M,C,E,H⟩;dsimp only at L M C E H;have O:=C.len;unfold jhv;dsimp only
  simp(disch:=omega) only[jak];refine .iteP (fun hc=>?_) (fun hc=>.dn ⟨C,fun i j x y e g q A B=>H i j x y e g (by omega) q A B⟩);refine Tot.swap (by omega) (by omega) fun x y A B=>?_;have T:=R.swp A B (a:=a) (b:=b) (by omega) (by omega) (by omega) (by omega);have W:=T.len;have F:∀j z,a<=j->j<=a+v->At l j z->le z x:=fun j z e g o=>jqq h N E (by omega) (j-a).toNat (j-a) x z (by omega) (by omega) A (by rw[show a+(j-a)=j by omega];exact o);have D:∀i j u z,a<=i->i<j->a+v<=j->j<b->At (swp l a (a+v) x y) i u->At (swp l a (a+v) x y) j z->le u z:=by
   intro i j u z e g q t w o;rcases A.swp B o with⟨K,rfl⟩|⟨_,K,rfl⟩|⟨_,_,G⟩
   ·rcases A.swp B w with⟨J,rfl⟩|⟨_,J,rfl⟩|⟨_,_,k⟩
    ·omega
    ·exact F _ _ (by omega) (by omega) B
    ·exact F _ _ (by omega) (by omega) k
   ·omega
   ·rcases A.swp B w with⟨J,rfl⟩|⟨_,J,rfl⟩|⟨_,_,k⟩
    ·exact H a j _ _ (by omega) (by omega) (by omega) t A G
    ·exact H (a+v) j _ _ (by omega) (by omega) (by omega) t B G
    ·exact H i j _ _ e g (by omega) t k G
  refine Tot.call (sift h (f:=a) (lo:=0) (hi:=v) (r:=0) (l0:=swp l a (a+v) x y) N (by omega) (by omega) (by omega) (by omega) (by omega) (by omega) ?_ ?_) fun l' d=>?_
  ·intro i c u z e g q t w o;rw[jo9 (by omega) (by omega) (by omega) (by omega)]at w o;exact E i c u z e (by omega) q (by omega) w o
  ·intro p c u z e g;omega
  ·refine .nx ⟨m-1,by omega,by dsimp only;omega,by dsimp only;omega,(C.trans T).trans (d.1.wide (by omega) (by omega)),?_,?_⟩
   ·dsimp only
    rw[show v-1+1=v by omega];exact d.2
   ·intro i j u z e g q t w o;dsimp only at q w o;rw[d.1.out j z (by omega)]at o;by_cases hi:i<a+v
    ·obtain⟨i',K,J,k⟩:=d.1.inn i u e hi w;exact D i' j u z K (by omega) (by omega) t k o
    ·rw[d.1.out i u (by omega)]at w;exact D i j u z e g (by omega) t w o
end
end Go.Ab.Pdq
namespace Go.Ab.Pdq
set_option linter.unusedVariables false
set_option linter.unusedSimpArgs false
set_option linter.unusedVariables false
variable{α β:Type}
section
variable{cmp:α->α->Option Int}{le:α->α->Prop}(h:Lt cmp le)
include h
end
end Go.Ab.Pdq
namespace Go.Ab.Pdq
set_option linter.unusedVariables false
set_option linter.unusedSimpArgs false
set_option linter.unusedVariables false
variable{α β:Type}
def Low(le:α->α->Prop)(l:List α)(a b:Int):Prop:=0<a->∀y k x,At l (a-1) y->a<=k->k<b->At l k x->le y x
theorem Low.R{le:α->α->Prop}{l l':List α}{a b:Int}(h:Low le l a b)(d:R a b l l'):Low le l' a b:=by
 intro h0 y k x o i m n;obtain⟨j,e,f,g⟩:=d.inn k x i m n;exact h h0 y j x ((d.out _ _ (by omega)).1 o) e f g
theorem Srt.R{le:α->α->Prop}{l l':List α}{a b c d:Int}(h:Srt le l a b)(e:R c d l l')(hc:b<=c):Srt le l' a b:=
 fun i j x y f g k m n=>h i j x y f g k ((e.out _ _ (by omega)).1 m) ((e.out _ _ (by omega)).1 n)
section
variable{cmp:α->α->Option Int}{le:α->α->Prop}(h:Lt cmp le)
include h
end
end Go.Ab.Pdq
namespace Go.Ab.Pdq
set_option linter.unusedVariables false
set_option linter.unusedSimpArgs false
set_option linter.unusedVariables false
variable{α β:Type}
def Dn(le:α->α->Prop)(l:List α)(a b d e:Int):Prop:=∀i j x y,a<=i->i<j->j<b->(i<d \/e<=j)->At l i x->At l j y->le x y
theorem Dn.R{le:α->α->Prop}{l l':List α}{a b d e:Int}(hd:Dn le l a b d e)(v:a<=d)(w:e<=b)(f:R d e l l'):Dn le l' a b d e:=by
 intro i j x y o t p u k g;by_cases hi:i<d \/e<=i
 ·rw[f.out i x hi]at k;by_cases s:j<d \/e<=j
  ·rw[f.out j y s]at g;exact hd i j x y o t p u k g
  ·obtain⟨j',q,r,n⟩:=f.inn j y (by omega) (by omega) g;exact hd i j' x y o (by omega) (by omega) (by omega) k n
 ·rw[f.out j y (by omega)]at g;obtain⟨i',q,r,m⟩:=f.inn i x (by omega) (by omega) k;exact hd i' j x y (by omega) (by omega) p (by omega) m g
section
variable{cmp:α->α->Option Int}{le:α->α->Prop}(h:Lt cmp le)
include h
end
end Go.Ab.Pdq
namespace Go.Ab.Pdq
set_option linter.unusedVariables false
set_option linter.unusedSimpArgs false
section
variable{α:Type}
def insR(lt:α->α->Bool)(x:α):List α->List α
 |[]=>[x]
 |y::r=>bif lt x y then y::insR lt x r else x::y::r
def insE(lt:α->α->Bool)(x:α)(l:List α):List α:=(insR lt x l.reverse).reverse
def isort(lt:α->α->Bool)(l:List α):List α:=l.foldl (fun o x=>insE lt x o) []
variable{lt:α->α->Bool}{x:α}
theorem jnk:insE lt x []=[x]:=rfl
theorem jlj(o:List α)(y:α):insE lt x (o++[y])=bif lt x y then insE lt x o++[y]else o++[y]++[x]:=by
 unfold insE;rw[List.reverse_append];show(bif lt x y then y::insR lt x o.reverse else x::y::o.reverse).reverse=_;cases lt x y
 ·simp
 ·simp
theorem jjy{l:List α}(h:0<l.length):∃o z,l=o++[z]:=by
 have a:l≠[]:=List.length_pos_iff.1 h;exact⟨l.dropLast,l.getLast a,(List.dropLast_concat_getLast a).symm⟩
theorem insE_slot:∀(n:Nat){o:List α}{k:Nat},o.length=n->k<=o.length->(∀y∈o.drop k,lt x y=true)->(∀y,0<k->o[k-1]? =some y->lt x y=false)->o.take k++[x]++o.drop k=insE lt x o
 |0,o,k,g,i,_,_=>by
  have:o=[]:=List.length_eq_zero_iff.1 g;subst this;simp[jnk]
 |n+1,o,k,g,i,e,f=>by
  obtain⟨p,y,rfl⟩:=jjy (l:=o) (by omega);have j:(p++[y]).length=p.length+1:=by simp
  rw[jlj];by_cases a:k=(p++[y]).length
  ·have:=f y (by omega) (by rw[a,j];simp);rw[this,a,List.take_length,List.drop_length];simp
  ·have m:=e y (by rw[List.drop_append_of_le_length (by omega)];simp);have q:=insE_slot n (o:=p) (k:=k) (by omega) (by omega) (fun z b=>e z (by rw[List.drop_append_of_le_length (by omega)];simp[b])) (fun z b d=>f z b (by rw[List.getElem?_append_left (by omega)];exact d));rw[m,cond_true,<-q,List.take_append_of_le_length (by omega),List.drop_append_of_le_length (by omega),List.append_assoc,List.append_assoc,List.append_assoc]
theorem jlk(o:List α):(insE lt x o).Perm (o++[x]):=by
 have:∀l:List α,(insR lt x l).Perm (x::l):=by
  intro l
  induction l with
  |nil=>exact .refl _
  |cons y r a=>
   unfold insR;cases lt x y
   ·exact .refl _
   ·exact(List.Perm.cons y a).trans (.swap x y r)
 unfold insE;refine(List.reverse_perm _).trans ((this _).trans ?_);exact((List.reverse_perm o).cons x).trans (List.perm_append_comm (l₁:=[x]))
theorem isort_snoc(l:List α)(y:α):isort lt (l++[y])=insE lt y (isort lt l):=by unfold isort;rw[List.foldl_append];rfl
theorem isort_perm(l:List α):(isort lt l).Perm l:=by
 have:∀n (l:List α),l.length=n->(isort lt l).Perm l:=by
  intro n
  induction n with
  |zero=>
   intro l a;have:l=[]:=List.length_eq_zero_iff.1 a;subst this;exact .refl _
  |succ n b=>
   intro l a;obtain⟨p,y,rfl⟩:=jjy (l:=l) (by omega);rw[isort_snoc];exact(jlk _).trans ((b p (by simpa using a)).append_right [y])
 exact this _ l rfl
theorem isort_len(l:List α):(isort lt l).length=l.length:=(isort_perm l).length_eq
theorem jmo(tr:∀a b c,lt b a=false->lt c b=false->lt c a=false)(as:∀a b,lt a b=true->lt b a=false){o:List α}(h:o.Pairwise fun a b=>lt b a=false):(insE lt x o).Pairwise fun a b=>lt b a=false:=by
 have:∀n (o:List α),o.length=n->o.Pairwise (fun a b=>lt b a=false)->(insE lt x o).Pairwise fun a b=>lt b a=false:=by
  intro n
  induction n with
  |zero=>
   intro o d _;have:o=[]:=List.length_eq_zero_iff.1 d;subst this;rw[jnk];simp
  |succ n f=>
   intro o d h;obtain⟨p,y,rfl⟩:=jjy (l:=o) (by omega);rw[List.pairwise_append]at h;rw[jlj];cases e:lt x y with
   |true=>
    rw[cond_true,List.pairwise_append];refine⟨f p (by simpa using d) h.1,by simp,fun a ha b hb=>?_⟩;have hb:b=y:=by simpa using hb
    subst hb;rcases List.mem_append.1 ((jlk p).mem_iff.1 ha)with ha|ha
    ·exact h.2.2 a ha b (by simp)
    ·have:a=x:=by simpa using ha
     subst this;exact as _ _ e
   |false=>
    rw[cond_false,List.pairwise_append];refine⟨List.pairwise_append.2 h,by simp,fun a ha b hb=>?_⟩;have hb:b=x:=by simpa using hb
    subst hb;rcases List.mem_append.1 ha with ha|ha
    ·exact tr _ _ _ (h.2.2 a ha y (by simp)) e
    ·have:a=y:=by simpa using ha
     subst this;exact e
 exact this _ o rfl h
theorem isort_sorted(tr:∀a b c,lt b a=false->lt c b=false->lt c a=false)(as:∀a b,lt a b=true->lt b a=false)(l:List α):(isort lt l).Pairwise fun a b=>lt b a=false:=by
 have:∀n (l:List α),l.length=n->(isort lt l).Pairwise fun a b=>lt b a=false:=by
  intro n
  induction n with
  |zero=>
   intro l d;have:l=[]:=List.length_eq_zero_iff.1 d;subst this;simp[isort]
  |succ n e=>
   intro l d;obtain⟨p,y,rfl⟩:=jjy (l:=l) (by omega);rw[isort_snoc];exact jmo tr as (e p (by simpa using d))
 exact this _ l rfl
variable{cmp:α->α->Option Int}{U:α->Prop}(hc:∀x y,U x->U y->∃c,cmp x y=some c/\ decide (c<0)=lt x y)
include hc
theorem jsa(A:List α)(x:α)(a:List α)(M:A.length<=4294967296)(u:U x)(t:∀y∈A,U y):Tot (iter (insertionSort_L1 0 cmp) ((A.length:Int),A++x::a)) fun r=>r=insE lt x A++a:=by
 refine Tot.iter (fun m s=>s.1=(m:Int)/\ m<=A.length/\ s.2=A.take m++x::(A.drop m++a)/\ ∀y∈A.drop m,lt x y=true) (n:=A.length) ⟨rfl,Nat.le_refl _,by simp,by simp⟩ ?_;rintro m ⟨v,d⟩ ⟨I,L,hd,j⟩;simp only at I hd;subst I;subst hd;have H:(A.take m).length=m:=by rw[List.length_take];omega
 have E:(A.take m++x::(A.drop m++a))[m]? =some x:=by
  rw[List.getElem?_append_right (by omega),H,Nat.sub_self];rfl
 unfold insertionSort_L1;refine .call (P:=fun b=>(b=true->0<m/\ ∃y,A[m-1]? =some y/\ lt x y=true)/\ (b=false->∀y,0<m->A[m-1]? =some y->lt x y=false)) (.iteP (fun h0=>?_) fun h0=>.ok ⟨fun h=>(by cases h),fun _ y h _=>absurd h (by omega)⟩) fun b hb=>.ite (fun D=>?_) (fun K=>.dn ?_)
 ·obtain⟨y,f⟩:=jaj (l:=A) (i:=m-1) (by omega);have q:w64 ((m:Int)-1)=((m-1:Nat):Int):=by rw[jak (by omega)];omega
  have e:(A.take m++x::(A.drop m++a))[m-1]? =some y:=by
   rw[List.getElem?_append_left (by omega),List.getElem?_take_of_lt (by omega)];exact f
  obtain⟨c,w,g⟩:=hc x y u (t y (List.mem_of_getElem? f));rw[q];refine .eq (ixs E) (.eq (ixs e) (.eq w (.ok ⟨fun h=>⟨by omega,y,f,by rw[<-g];exact h⟩,fun h z _ hz=>?_⟩)));rw[f]at hz;cases hz;rw[<-g];exact h
 ·obtain⟨h0,y,f,F⟩:=hb.1 D;have q:w64 ((m:Int)-1)=((m-1:Nat):Int):=by rw[jak (by omega)];omega
  have e:(A.take m++x::(A.drop m++a))[m-1]? =some y:=by
   rw[List.getElem?_append_left (by omega),List.getElem?_take_of_lt (by omega)];exact f
  have J:A.take m=A.take (m-1)++[y]:=by
   have:=jap f
   rwa [show m-1+1=m by omega]at this
  have G:A.drop (m-1)=y::A.drop m:=by
   have:=List.drop_eq_getElem_cons (l:=A) (i:=m-1) (by omega);rw[this,show m-1+1=m by omega];congr 1;exact(List.getElem?_eq_some_iff.1 f).2
  have C:(A.take (m-1)).length=m-1:=by rw[List.length_take];omega
  have p:((A.take m++x::(A.drop m++a)).set m y).set (m-1) x=A.take (m-1)++x::(A.drop (m-1)++a):=by
   rw[List.set_append_right _ _ (by omega),H,Nat.sub_self,List.set_cons_zero,J,List.append_assoc,List.set_append_right _ _ (by omega),C,Nat.sub_self,G];rfl
  have B:((A.take m++x::(A.drop m++a)).set m y)[m-1]? =some y:=by
   rw[List.getElem?_set_ne (by omega)];exact e
  rw[q];refine .eq (ixs e) (.eq (ixs E) (.eq (ixs E) ?_));rw[Int.toNat_natCast,Int.toNat_natCast];refine .eq (ixs B) (.nx ⟨m-1,by omega,rfl,by omega,p,fun z hz=>?_⟩);rw[G]at hz;rcases List.mem_cons.1 hz with rfl|hz
  ·exact F
  ·exact j z hz
 ·have:=insE_slot (lt:=lt) (x:=x) A.length (o:=A) (k:=m) rfl L j (hb.2 K);rw[<-this];simp
theorem insertion_stU(l:List α)(q:l.length<=4294967295)(hU:∀x∈l,U x):insertionSort l 0 (l.length:Int) cmp=some (isort lt l):=by
 unfold insertionSort;have o:w64 (0+1)=1:=rfl;rw[o];cases l with
 |nil=>rw[jmm];unfold insertionSort_L2;rfl
 |cons a l=>
  refine Tot.val (Tot.iter (fun m s=>∃i:Nat,s.1=(i:Int)/\ 1<=i/\ m+i=(a::l).length/\ s.2=isort lt ((a::l).take i)++(a::l).drop i) (n:=l.length) ⟨1,rfl,by omega,by simp,rfl⟩ ?_);rintro m ⟨v,d⟩ ⟨i,g,p,t,hd⟩;simp only at g hd;subst g;subst hd;unfold insertionSort_L2;refine .iteP (fun h=>?_) (fun h=>.dn ?_)
  ·obtain⟨x,f⟩:=jaj (l:=a::l) (i:=i) (by omega);have e:(a::l).drop i=x::(a::l).drop (i+1):=by
    rw[List.drop_eq_getElem_cons (by omega)];congr 1;exact(List.getElem?_eq_some_iff.1 f).2
   have b:(isort lt ((a::l).take i)).length=i:=by rw[isort_len,List.length_take];omega
   rw[e];have hi:=jsa hc (isort lt ((a::l).take i)) x ((a::l).drop (i+1)) (by omega) (hU x (List.mem_of_getElem? f)) fun y k=>hU y (List.mem_of_mem_take ((isort_perm _).mem_iff.1 k));rw[b]at hi;refine .call hi fun r j=>.nx ⟨m-1,by omega,i+1,jah (by omega),by omega,by omega,?_⟩;rw[j,jap f,isort_snoc]
  ·have:i=(a::l).length:=by omega
   subst this;rw[List.take_length,List.drop_length,List.append_nil]
end
theorem insertion_st{α:Type}{lt:α->α->Bool}{cmp:α->α->Option Int}(hc:∀x y,∃c,cmp x y=some c/\ decide (c<0)=lt x y)(l:List α)(a:l.length<=4294967295):insertionSort l 0 (l.length:Int) cmp=some (isort lt l):=
 insertion_stU (U:=fun _=>True) (fun x y _ _=>hc x y) l a fun _ _=>trivial
end Go.Ab.Pdq
