/- My own layer: the executor over a region's operations; objects may be frozen in between. -/
import Derived.Test.YtimecodbnhcnoaaGreatAbSteal
namespace Go.Ab
set_option linter.unusedVariables false
set_option linter.unusedSimpArgs false

def mdOf:List (Nat×List Md)->Nat->List Md
 |[],_=>[]
 |(a,m)::r,t=>bif Nat.beq a t then m else mdOf r t
def jqi(rs:List (Nat×List Md)):List (Nat×Option Obj')->List Nat->List Nat->List (Nat×Nat×List Md)
 |[],_,_=>[]
 |(o,x)::r,seen,no=>bif memB o seen then jqi rs r seen no else match x with
  |some _=>bif memB o no then jqi rs r (o::seen) no else(o,o,mdOf rs o)::jqi rs r (o::seen) no
  |none=>jqi rs r (o::seen) no
def fzP(os:List Nat)(ms rs:List (Nat×List Md))(x:X):WP:=⟨x.A.map fun q=>(q.1,mdOf ms q.1),jqi rs x.L [] os,[],x.nx⟩

def preF(fk:Option Nat)(n i:Nat)(hs:List (Nat×H))(x:X):Option (List Prop×X×List (Nat×H)):=
 match hs with
 |(j,.fz os ms rs)::r=>bif Nat.beq j i then
   match fk with
   |some k=>bif jgm n k (fzP os ms rs x) x then some ([],wkX n k (fzP os ms rs x) x,r)else none
   |none=>none
  else some ([],x,hs)
 |(j,.st lc a)::r=>bif Nat.beq j i then
   match fk with
   |some _=>match jiy n lc a x with
    |some (ps,x')=>some (ps,x',r)
    |none=>none
   |none=>none
  else some ([],x,hs)
 |_=>some ([],x,hs)

def exR(fk:Option Nat)(chk:Nat->Oper->X->Bool)(ty:TypeId->Option TyE)(Γ:Nat->Option FnSpec)(ops:List Oper)(n:Nat):List Oper->Nat->List (Nat×H)->X->Option (List Prop×X)
 |[],_,hs,x=>bif ji9 hs then some ([],x)else none
 |o::r,i,a,c=>
  match preF fk n i a c with
  |none=>none
  |some (b,x,hs)=>
  bif chk i o x then
   match jhy ops n x.A o.guard with
   |none=>none
   |some false=>match exR fk chk ty Γ ops n r (i+1) (popH i hs).2 ⟨putX x.A o.dst .und,x.L,x.nx+16⟩with
    |none=>none
    |some (qs,x')=>some (b++qs,x')
   |some true=>
    match jtc ty Γ (obo x.L) (evX n x.A) x.nx o (popH i hs).1 with
    |none=>none
    |some (ps,av,δ)=>
     match exR fk chk ty Γ ops n r (i+1) (popH i hs).2 ⟨putX x.A o.dst av,appX δ x.L,x.nx+16⟩with
     |none=>none
     |some (qs,x')=>some (b++(ps++qs),x')
  else none

section
variable{P:Program}{cx:Cx}{ty:TypeId->Option TyE}{Γ:Nat->Option FnSpec}

theorem jk9{n i:Nat}{hs a:List (Nat×H)}{b:List Prop}{x x':X}(h:preF none n i hs x=some (b,x',a)):x'=x/\ b=[]:=by
 unfold preF at h;split at h
 ·rename_i j os ms rs r;cases hb:Nat.beq j i with
  |true=>rw[hb]at h;cases h
  |false=>rw[hb]at h;cases h;exact⟨rfl,rfl⟩
 ·rename_i j lc c r;cases hb:Nat.beq j i with
  |true=>rw[hb]at h;cases h
  |false=>rw[hb]at h;cases h;exact⟨rfl,rfl⟩
 ·cases h;exact⟨rfl,rfl⟩
theorem jtk{k n i:Nat}(f:cx.L=k){hs b:List (Nat×H)}{d:List Prop}{x x':X}(h:preF (some k) n i hs x=some (d,x',b))(g:AllP d):Wk cx (x.st n) (x'.st n):=by
 unfold preF at h;split at h
 ·rename_i j os ms rs r;cases hb:Nat.beq j i with
  |true=>
   rw[hb]at h;simp only[cond_true]at h;cases a:jgm n k (fzP os ms rs x) x with
   |true=>
    rw[a]at h;cases h;exact Wk_X f _ a
   |false=>rw[a]at h;cases h
  |false=>rw[hb]at h;cases h;exact Wk.refl _
 ·rename_i j lc e r;cases hb:Nat.beq j i with
  |true=>
   rw[hb]at h;simp only[cond_true]at h;split at h
   ·rename_i ps l c;cases h;exact ju9 lc e c g
   ·cases h
  |false=>rw[hb]at h;cases h;exact Wk.refl _
 ·cases h;exact Wk.refl _

theorem jfx(u:∀t x,ty t=some x->TyOK P t x)(G:∀f S,Γ f=some S->FnOK P cx.J f S){k n:Nat}(T:cx.L=k){chk:Nat->Oper->X->Bool}{ops:List Oper}{Q:Exit->Act->World->Prop}:
  ∀(l:List Oper)(i:Nat)(hs:List (Nat×H))(x x':X)(ps:List Prop)(κ:Kap)(F:Nat->Prop)(a:Act)(w:World),exR (some k) chk ty Γ ops n l i hs x=some (ps,x')->AllP ps->Rel cx κ F (x.st n) a w->
   (∀κ' F' a' w',(∀b,F b->F' b)->Wy cx F w w'->Rel cx κ' F' (x'.st n) a' w'->Q .normal a' w')->wpList P ops.toArray Q l a w
 |[],i,hs,x,x',ps,κ,F,a,w,h,s,E,D=>by
  unfold exR at h;cases hb:ji9 hs with
  |false=>rw[hb]at h;cases h
  |true=>
   rw[hb]at h;cases h;exact wpList_nil (D κ F a w (fun _ h=>h) (Wx.refl _ _) E)
 |o::r,i,Z,x0,x',ps,κ0,F0,a,w,h,s,Y,D=>by
  unfold exR at h;cases p:preF (some k) n i Z x0 with
  |none=>rw[p]at h;cases h
  |some xh=>
   obtain⟨p0,x,hs⟩:=xh;rw[p]at h;simp only[]at h;have U:AllP p0:=by
    cases g:chk i o x with
    |false=>rw[g]at h;cases h
    |true=>
     rw[g]at h;simp only[cond_true]at h;split at h
     ·cases h
     ·split at h
      ·cases h
      ·cases h;exact s.app.1
     ·split at h
      ·cases h
      ·split at h
       ·cases h
       ·cases h;exact s.app.1
   obtain⟨κ,F,d,E⟩:=jtk T p U κ0 F0 a w Y;have y:RelU cx κ F (· <x.nx) (envX n x.A) (obo x.L) a w:=⟨E.env,E.orel⟩;have z:(Un (· <x.nx) x.nx)=(· <x.nx+16):=by funext m;simp only[Un,eq_iff_iff];omega
   cases g:chk i o x with
   |false=>rw[g]at h;cases h
   |true=>
    rw[g]at h;simp only[cond_true]at h;refine wpList_step fun K hK=>?_;cases C:jhy ops n x.A o.guard with
    |none=>rw[C]at h;cases h
    |some b=>
     rw[C]at h;cases b with
     |true=>
      simp only[]at h;split at h
      ·cases h
      ·rename_i ab av δ aa;split at h
       ·cases h
       ·rename_i qs x2 q;cases h;obtain⟨_,s⟩:=s.app;obtain⟨V,W⟩:=s.app;refine jem u G y (nm:=x.nx) (K:=fun e B=>e=av/\ B=δ) (fun j _=>by omega) (jhz C (fun _=>je0 aa V ⟨rfl,rfl⟩) (fun hb=>by cases hb)) ?_;rintro e B v κ' F' w' ⟨rfl,rfl⟩ hF hw c;refine hK _ _ (jfx u G T r _ _ _ _ _ κ' F' _ _ q W ?_ ?_)
        ·rw[jd1,jko,z]at c;exact⟨c.env,c.orel⟩
        ·intro κ2 I M w2 N O R;exact D κ2 I M w2 (fun b hb=>N b (hF b (d b hb))) (Wx.trans (hw.mono fun b hb=>hb.imp (d b) id) O (fun b hb=>hb.imp (fun hb=>hF b (d b hb)) id)) R
     |false=>
      simp only[]at h;split at h
      ·cases h
      rename_i qs x2 q;cases h;obtain⟨_,s⟩:=s.app;refine jem u G y (nm:=x.nx) (K:=fun e B=>e=.und/\ B=[]) (fun j _=>by omega) (jhz C (fun hb=>by cases hb) (fun _=>⟨rfl,rfl⟩)) ?_;rintro e B v κ' F' w' ⟨rfl,rfl⟩ hF hw c;refine hK _ _ (jfx u G T r _ _ _ _ _ κ' F' _ _ q s ?_ ?_)
      ·rw[jd1,z]at c;exact⟨c.env,c.orel⟩
      ·intro κ2 I M w2 N O R;exact D κ2 I M w2 (fun b hb=>N b (hF b (d b hb))) (Wx.trans (hw.mono fun b hb=>hb.imp (d b) id) O (fun b hb=>hb.imp (fun hb=>hF b (d b hb)) id)) R

theorem jh3{M:Nat->List Nat}{chk:Nat->Oper->X->Bool}{ops:List Oper}{n:Nat}{K:List AV->Objs->Nat->Prop}(a:∀i o (x:X),chk i o x=true->OkM ty Γ ops.toArray M i o (envX n x.A) (obo x.L)):∀(l:List Oper)(i:Nat)(hs:List (Nat×H))(x x':X)(ps:List Prop),exR none chk ty Γ ops n l i hs x=some (ps,x')->AllP ps->K (envX n x'.A) (obo x'.L) x'.nx->
  runD ty Γ ops.toArray M K l i x.nx (envX n x.A) (obo x.L)
 |[],i,hs,x,x',ps,h,g,hK=>by
  unfold exR at h;cases hb:ji9 hs with
  |false=>rw[hb]at h;cases h
  |true=>
   rw[hb]at h;cases h;exact hK
 |o::r,i,p,u,x',ps,h,g,hK=>by
  unfold exR at h;cases c:preF none n i p u with
  |none=>rw[c]at h;cases h
  |some w=>
   obtain⟨y,x,hs⟩:=w;rw[c]at h;obtain⟨s,j⟩:=jk9 c;subst s;subst j;simp only[List.nil_append]at h;cases e:chk i o x with
   |false=>rw[e]at h;cases h
   |true=>
    rw[e]at h;simp only[cond_true]at h;refine⟨a _ _ _ e,?_⟩;cases f:jhy ops n x.A o.guard with
    |none=>rw[f]at h;cases h
    |some b=>
     rw[f]at h;refine jhz f (fun hb=>?_) (fun hb=>?_)
     ·subst hb;simp only[]at h;split at h
      ·cases h
      ·rename_i t av δ q;split at h
       ·cases h
       ·rename_i qs v d;cases h;obtain⟨k,m⟩:=g.app;refine je0 q k ?_;rw[jd1,jko];exact jh3 a r _ _ _ _ _ d m hK
     ·subst hb;simp only[]at h;split at h
      ·cases h
      rename_i qs v d;cases h;rw[jd1];exact jh3 a r _ _ _ _ _ d g hK

def chk0(_:Nat)(_:Oper)(_:X):Bool:=true
def mAt:List (Nat×List Nat)->Nat->List Nat
 |[],_=>[]
 |(a,m)::r,k=>bif Nat.beq a k then m else mAt r k
def chkM(ty:TypeId->Option TyE)(Γ:Nat->Option FnSpec)(ops:List Oper)(n:Nat)(M:List (Nat×List Nat))(i:Nat)(o:Oper)(x:X):Bool:=
 match mutB ty Γ o with
 |true=>((jbt (obo x.L) (evX n x.A) o).all fun m=>memB m (mAt M i)||(memB m (jfs Γ (obo x.L) (evX n x.A) o)&&(List.range ops.length).all fun k=>Nat.beq k i|| !((ops[k]?).any (mutB ty Γ))|| !memB m (mAt M k)||jea ops.toArray i k))&&(mAt M (i+10000)).all fun q=>memB q (jiu Γ (obo x.L) (evX n x.A) o)
 |false=>(List.range ops.length).all fun k=>Nat.beq k i|| !((ops[k]?).any (mutB ty Γ))||((jbt (obo x.L) (evX n x.A) o).all fun m=> !memB m (mAt M k))||jea ops.toArray i k||ldK ty (evX n x.A) (mAt M) k o
theorem jt6{ops:List Oper}{n:Nat}{M:List (Nat×List Nat)}{i:Nat}{o:Oper}{x:X}(h:chkM ty Γ ops n M i o x=true):OkM ty Γ ops.toArray (mAt M) i o (envX n x.A) (obo x.L):=by
 unfold chkM at h;unfold OkM;rw[jlw]at h;cases l:mutB ty Γ o with
 |true=>
  rw[l]at h;simp only[Bool.and_eq_true]at h;refine⟨fun m b=>?_,fun q r=>jle (List.all_eq_true.1 h.2 q r)⟩;have h1:=List.all_eq_true.1 h.1 m b;rw[Bool.or_eq_true,Bool.and_eq_true]at h1;rcases h1 with h1|⟨h1,p⟩
  ·exact .inl (jle h1)
  ·refine .inr ⟨jle h1,fun k ok j e f g c=>?_⟩;have a:ops[k]? =some ok:=by simpa using j
   have d:k<ops.length:=(List.getElem?_eq_some_iff.1 a).1;have:=List.all_eq_true.1 p k (List.mem_range.2 d);simp only[Bool.or_eq_true,a,Option.any_some,e,Bool.not_true,g,or_false,Bool.false_eq_true]at this;rcases this with h1|h1
   ·exact f (Nat.eq_of_beq_eq_true h1)
   ·simp only[Bool.not_eq_true']at h1;exact je3 h1 c
 |false=>
  rw[l]at h;simp only[]at h;intro k ok j e f g m b;have a:ops[k]? =some ok:=by simpa using j
  have d:k<ops.length:=(List.getElem?_eq_some_iff.1 a).1;have:=List.all_eq_true.1 h k (List.mem_range.2 d);simp only[Bool.or_eq_true,a,Option.any_some,e,Bool.not_true,g,or_false,Bool.false_eq_true]at this;rcases this with(h1|h1)|h1
  ·exact absurd (Nat.eq_of_beq_eq_true h1) f
  ·have:=List.all_eq_true.1 h1 m b;simp only[Bool.not_eq_true']at this;exact .inl fun c=>je3 this c
  ·exact .inr h1

end

def rP(r:Option (List Prop×X)):Option (List Prop):=r.map (·.1)
def rX(r:Option (List Prop×X)):X:=match r with
 |some (_,x)=>x
 |none=>⟨[],[],0⟩

section
variable{P:Program}{cx:Cx}{ty:TypeId->Option TyE}{Γ:Nat->Option FnSpec}{Q:Exit->St->Prop}

theorem jud(c:∀t x,ty t=some x->TyOK P t x)(p:∀f S,Γ f=some S->FnOK P cx.J f S){k:Nat}(j:cx.L=k){id n:Nat}{l:List Oper}{x:X}(hs:List (Nat×H)){ps:List Prop}(m:AllP ps)
  (h:rP (exR (some k) chk0 ty Γ l n l 0 hs x)=some ps) (d:Q .normal ((rX (exR (some k) chk0 ty Γ l n l 0 hs x)).st n)):Ok P cx (.region id l.toArray false) Q (x.st n):=by
 cases b:exR (some k) chk0 ty Γ l n l 0 hs x with
 |none=>rw[b]at h;cases h
 |some r=>
  obtain⟨q,x'⟩:=r;rw[b]at h d;cases h;intro κ F a w o;refine wp_region_lit (jfx c p j l 0 hs x x' _ κ F a w b m o ?_);intro κ' F' a' w' e g i;exact⟨κ',F',x'.st n,d,e,g,i⟩
theorem jl0(a:∀t x,ty t=some x->TyOK P t x)(g:∀f S,Γ f=some S->FnOK P cx.J f S){k:Nat}(b:cx.L=k){id n:Nat}{l:List Oper}{x:X}{c:Code}(hs:List (Nat×H)){ps:List Prop}(d:AllP ps)
  (h:rP (exR (some k) chk0 ty Γ l n l 0 hs x)=some ps) (e:Ok P cx c Q ((rX (exR (some k) chk0 ty Γ l n l 0 hs x)).st n)):Ok P cx (.seq (.region id l.toArray false) c) Q (x.st n):=
 jab (jud a g b hs d h e)

theorem js2(e:P.follows .mixedOrders=true)(b:∀t x,ty t=some x->TyOK P t x)(j:∀f S,Γ f=some S->FnOK P cx.J f S)(d:Live Γ){id n:Nat}{l:List Oper}{x:X}(M:List (Nat×List Nat))(hB:(Region.lexB .any l.toArray&&lexM ty Γ (mAt M) l.toArray)=true)(hs:List (Nat×H)){ps:List Prop}(g:AllP ps)
  (h:rP (exR none (chkM ty Γ l n M) ty Γ l n l 0 hs x)=some ps) (c:Q .normal ((rX (exR none (chkM ty Γ l n M) ty Γ l n l 0 hs x)).st n)):Ok P cx (.region id l.toArray true) Q (x.st n):=by
 simp only[Bool.and_eq_true]at hB;cases a:exR none (chkM ty Γ l n M) ty Γ l n l 0 hs x with
 |none=>rw[a]at h;cases h
 |some r=>
  obtain⟨k,x'⟩:=r;rw[a]at h c;cases h;refine juh e b j d (mAt M) hB.1 hB.2 ?_;exact jh3 (fun i o A=>jt6) l 0 hs x x' _ a g c
theorem joz(e:P.follows .mixedOrders=true)(a:∀t x,ty t=some x->TyOK P t x)(i:∀f S,Γ f=some S->FnOK P cx.J f S)(d:Live Γ){id n:Nat}{l:List Oper}{x:X}{c:Code}(M:List (Nat×List Nat))(hB:(Region.lexB .any l.toArray&&lexM ty Γ (mAt M) l.toArray)=true)(hs:List (Nat×H)){ps:List Prop}(g:AllP ps)
  (h:rP (exR none (chkM ty Γ l n M) ty Γ l n l 0 hs x)=some ps) (b:Ok P cx c Q ((rX (exR none (chkM ty Γ l n M) ty Γ l n l 0 hs x)).st n)):Ok P cx (.seq (.region id l.toArray true) c) Q (x.st n):=
 jab (js2 e a i d M hB hs g h b)

theorem jrq(E:∀t x,ty t=some x->TyOK P t x)(N:∀f S,Γ f=some S->FnOK P cx.J f S){id n:Nat}{l:List Oper}{x:X}{c:Code}(m:Nat){ds:List D}(hs:List (Nat×H)){ps:List Prop}(q:AllP ps)
  (h:rP (exR none chk0 ty Γ l n (l.take m) 0 hs x)=some ps) {o:Oper} (I:l.drop m=[o]) (k:o.guard=none)
  {es:Nat} (g:spec ty Γ (obo (rX (exR none chk0 ty Γ l n (l.take m) 0 hs x)).L) (evX n (rX (exR none chk0 ty Γ l n (l.take m) 0 hs x)).A) (rX (exR none chk0 ty Γ l n (l.take m) 0 hs x)).nx o=jis false (.dat (.sl es ds)))
  (v:∀b:Bool,(ds≠[]->b=false)->Ok P cx c Q ((⟨putX (rX (exR none chk0 ty Γ l n (l.take m) 0 hs x)).A o.dst (.dat (.sc (.bool b))),(rX (exR none chk0 ty Γ l n (l.take m) 0 hs x)).L,(rX (exR none chk0 ty Γ l n (l.take m) 0 hs x)).nx+16⟩:X).st n)):Ok P cx (.seq (.region id l.toArray false) c) Q (x.st n):=by
 refine jab (jrs E N ?_);cases u:exR none chk0 ty Γ l n (l.take m) 0 hs x with
 |none=>rw[u]at h;cases h
 |some r=>
  obtain⟨O,x'⟩:=r;rw[u]at h v g;cases h;have key:∀(s:List Oper)(i:Nat)(hs:List (Nat×H))(x x':X)(ps:List Prop),exR none chk0 ty Γ l n s i hs x=some (ps,x')->AllP ps->∀{K:List AV->Objs->Nat->Prop},ji3 ty Γ l.toArray K [o] x'.nx (envX n x'.A) (obo x'.L)->ji3 ty Γ l.toArray K (s++[o]) x.nx (envX n x.A) (obo x.L):=by
   intro s
   induction s with
   |nil=>
    intro i hs x x' ps h q K hK;unfold exR at h;cases hb:ji9 hs with
    |false=>rw[hb]at h;cases h
    |true=>rw[hb]at h;cases h;exact hK
   |cons p r F=>
    intro i B U x' ps h q K hK;unfold exR at h;cases a:preF none n i B U with
    |none=>rw[a]at h;cases h
    |some W=>
     obtain⟨Y,x,hs⟩:=W;rw[a]at h;obtain⟨M,w⟩:=jk9 a;subst M;subst w;simp only[chk0,cond_true,List.nil_append]at h;show(jb1 ty Γ l.toArray (obo x.L) (envX n x.A) x.nx p).T _;cases k:jhy l n x.A p.guard with
     |none=>rw[k]at h;cases h
     |some b=>
      rw[k]at h;refine jhz k (fun hb=>?_) (fun hb=>?_)
      ·subst hb;simp only[]at h;split at h
       ·cases h
       ·rename_i R av δ C;split at h
        ·cases h
        ·rename_i qs V e;cases h;obtain⟨y,z⟩:=q.app;refine je0 C y ?_;rw[jd1,jko];exact F _ _ _ _ _ e z hK
      ·subst hb;simp only[]at h;split at h
       ·cases h
       rename_i qs V e;cases h;rw[jd1];exact F _ _ _ _ _ e q hK
  have G:l=l.take m++[o]:=by rw[<-I,List.take_append_drop]
  suffices hh:ji3 ty Γ l.toArray (fun env σ m=>Then (Ok P cx c Q) Q .normal ⟨env,σ,m⟩) (l.take m++[o]) x.nx (envX n x.A) (obo x.L)by
   rw[<-G]at hh;exact hh
  refine key _ _ _ _ _ _ u q ?_;show(jb1 ty Γ l.toArray (obo x'.L) (envX n x'.A) x'.nx o).T _;refine jhz (b:=true) (by unfold jhy;rw[k]) (fun _=>?_) (fun hb=>by cases hb);have j:spec ty Γ (obo x'.L) (evX n x'.A) x'.nx o=jis false (.dat (.sl es ds)):=g;rw[j];cases ds with
  |nil=>
   refine⟨trivial,?_⟩;rintro av δ ⟨rfl,b,rfl,hb⟩;have:=v b hb;show Then (Ok P cx c Q) Q .normal ⟨putA (envX n x'.A) o.dst _,obo x'.L,x'.nx+16⟩;rw[jd1,Bool.bne_false];exact this
  |cons d r=>
   refine⟨trivial,?_⟩;have:=v false (fun _=>rfl);show Then (Ok P cx c Q) Q .normal ⟨putA (envX n x'.A) o.dst _,obo x'.L,x'.nx+16⟩;rw[jd1];exact this
end
end Go.Ab
