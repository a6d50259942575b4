/- My own layer, sixteenth part: what an operation can turn, and the names that it hands on. -/
import Derived.Test.YtimecodbnhcnoaaGreatAbDraw
namespace Go.Ab
set_option linter.unusedVariables false
set_option linter.unusedSimpArgs false
def Live(Γ:Nat->Option FnSpec):Prop:=∀f S,Γ f=some S->∀ds obs,S.pre ds obs->∃r new obs',S.post ds obs r new obs'

section
variable{U:Nat->Prop}{nm:Nat}{σ:Objs}{ty:TypeId->Option TyE}{Γ:Nat->Option FnSpec}

def Rng(nm n:Nat):Prop:=nm<=n/\ n<nm+16

structure Tame(U:Nat->Prop)(nm:Nat)(W:Nat->Prop)(av:AV)(δ:jbd):Prop where
 nb:NB (Un U nm) av
 key:∀p∈δ,Rng nm p.1 \/W p.1
 ob:∀p∈δ,∀x,p.2=some x->Un U nm p.1/\ NBo (Un U nm) x

def jcw(U:Nat->Prop)(nm:Nat)(W:Nat->Prop)(s:Spec):Prop:=s.pre->(∃av δ,s.R av δ)/\ ∀av δ,s.R av δ->Tame U nm W av δ

variable{W:Nat->Prop}

theorem jad:jcw U nm W .fail:=fun a=>a.elim
theorem jaq{p:Prop}{rd:List Nat}{av:AV}{δ:jbd}(h:p->Tame U nm W av δ):jcw U nm W (.det p rd av δ):=by
 intro d;refine⟨⟨av,δ,rfl,rfl⟩,?_⟩;rintro a e ⟨b,c⟩;subst b;subst c;exact h d
theorem jas{av:AV}(h:NB U av):Tame U nm W av []:=⟨NB.mono (fun _ h=>ja3 h) h,by simp,by simp⟩
theorem jaw{p:Prop}{rd:List Nat}{d:D}:jcw U nm W (.det p rd (.dat d) []):=jaq fun _=>jas (jez d)
theorem jf4{b:Bool}{s t:Spec}(h:jcw U nm W s)(a:jcw U nm W t):jcw U nm W (.split b s t):=by
 cases b
 ·exact a
 ·exact h
theorem jcy{p:Prop}{rd:List Nat}{av:AV}{x:Obj'}(h:NB (Un U nm) av)(c:NBo (Un U nm) x):jcw U nm W (.det p rd av [(nm,some x)]):=by
 refine jaq fun _=>⟨h,fun p a=>?_,fun p a y b=>?_⟩
 ·simp at a;subst a;exact .inl ⟨Nat.le_refl _,by show nm<nm+16;omega⟩
 ·simp at a;subst a;simp at b;subst b;exact⟨jbl,c⟩
theorem jc1{p:Prop}{rd:List Nat}{o:Nat}{x:Obj'}(hW:W o)(hU:U o)(c:NBo U x):jcw U nm W (.det p rd .und [(o,some x)]):=by
 refine jaq fun _=>⟨by unfold NB;trivial,fun p a=>?_,fun p a y b=>?_⟩
 ·simp at a;subst a;exact .inr hW
 ·simp at a;subst a;simp at b;subst b;exact⟨ja3 hU,NBo.mono (fun _ h=>ja3 h) c⟩

theorem jkl{x:AV}{cs:List AV}(b:x.cells=some cs)(c:NB U x):NBs U cs:=by
 have a:∀{y:AV},NB U y->NBs U [y]:=fun{y} h=>by unfold NBs;exact⟨h,by unfold NBs;trivial⟩
 cases x with
 |dat d=>
  cases d with
  |agg l=>simp only[AV.cells,Option.some.injEq]at b;subst b;exact jkk
  |sc u=>simp only[AV.cells,Option.some.injEq]at b;subst b;exact a c
  |sl es l=>simp only[AV.cells,Option.some.injEq]at b;subst b;exact a c
 |aggv l=>simp only[AV.cells,Option.some.injEq]at b;subst b;unfold NB at c;exact c
 |tup l=>simp[AV.cells]at b
 |und=>simp[AV.cells]at b
 |unk=>simp[AV.cells]at b
 |_=>simp only[AV.cells,Option.some.injEq]at b;subst b;exact a c

theorem jix{k:IntKind}{r:Int}:jcw U nm W (jli k r):=jaw
theorem jc2{b:Bool}:jcw U nm W (jcv b):=jaw

theorem joa{a:Bool}{x:AV}:jcw U nm W (jis a x):=by
 unfold jis;split
 ·exact jaw
 ·intro _;refine⟨⟨.dat (.sc (.bool (false !=a))),[],rfl,false,rfl,fun _=>rfl⟩,?_⟩;rintro av δ ⟨rfl,b,rfl,_⟩;exact jas (by unfold NB;trivial)
 ·exact jaw
 ·exact jad
theorem job{a:BinOp}{t:TypeId}{x y:AV}:jcw U nm W (jmy ty a t x y):=by
 unfold jmy;split
 ·split
  ·split
   ·split<;>first|exact jc2|exact jad
   ·exact jad
  ·exact jad
 ·exact jad
theorem jrx{a:BinOp}{t:TypeId}{x y:AV}:jcw U nm W (jge ty a t x y):=by
 unfold jge;split
 ·split
  ·exact jaw
  ·exact jaw
  ·split
   ·split<;>first|exact jix|exact jc2|exact jaw|exact jad
   ·exact jad
 ·split
  ·split<;>first|exact jc2|exact jaw|exact jad
  ·split
   ·split<;>first|exact jc2|exact jad
   ·unfold jhl;split
    ·split<;>first|exact joa|exact jad
    ·split<;>first|exact jc2|exact jad
    ·exact job

theorem jkf{b:Nat->Option (Nat×Nat)}{e:Operand->AV}(f:∀x,NB U (e x)):∀(a:List (Nat×Operand))(cells out:List AV),NBs U cells->jkg b cells (a.map fun p=>(p.1,e p.2))=some out->NBs U out
 |[],cells,out,hc,h=>by simp only[List.map_nil,jkg,Option.some.injEq]at h;subst h;exact hc
 |(i,x)::c,cells,out,hc,h=>by
  simp only[List.map_cons,jkg]at h;split at h
  ·rename_i g size cs j d;split at h
   ·exact jkf f c _ out (NBs.spl hc (jkl d (f x))) h
   ·cases h
  ·cases h

theorem jkt(d:∀o x,σ o=some x->U o/\ NBo U x){T:TyE}{o es k j:Nat}:jcw U nm W (jct σ T o es k j):=by
 unfold jct;split
 ·rename_i e es' mask l g hole a;have b:=d _ _ a;split
  ·split
   ·split
    ·refine jaq fun _=>jas (jca (jn8 fun c hc=>?_));unfold jdy at hc;obtain⟨i,_,rfl⟩:=List.mem_map.1 hc;split
     ·unfold NB;exact b
     ·unfold NB;trivial
    ·exact jad
   ·split
    ·exact jaw
    ·split
     ·refine jaq fun _=>jas ?_;unfold NB;exact b
     ·exact jad
  ·exact jad
 ·exact jad
theorem jku{T:TyE}{o g k j es i c:Nat}:jcw U nm W (jda σ T o g k j es i c):=by
 unfold jda;split
 ·split
  ·split<;>exact jaw
  ·exact jad
 ·exact jad
theorem jjm(d:∀o x,σ o=some x->U o/\ NBo U x){o g k j es i c:Nat}{ds:List D}(hW:W o):jcw U nm W (jch ty σ o g k j es i c ds):=by
 unfold jch;split
 ·rename_i t b;have a:=d _ _ (jbp b);split
  ·split
   ·split
    ·exact jc1 hW a.1 a.2
    ·split
     ·split
      ·exact jc1 hW a.1 a.2
      ·exact jad
     ·exact jad
   ·exact jad
  ·exact jad
 ·exact jad
theorem jgz{ns:List Nat}{p:Nat×Option Obj'}(h:p∈jfu ns):p.1∈ns/\ p.2=none:=by
 induction ns with
 |nil=>cases h
 |cons n ns a=>
  have h':p∈(n,none)::jfu ns:=h;rcases List.mem_cons.1 h' with rfl|h'
  ·exact⟨List.mem_cons_self ..,rfl⟩
  ·exact⟨List.mem_cons_of_mem _ (a h').1,(a h').2⟩
theorem ji5{cs:List AV}{n:Nat}(h:n∈cs.filterMap ownN):n∈jan cs:=by
 obtain⟨x,b,a⟩:=List.mem_filterMap.1 h;have:=jfn a;subst this;exact jp9 b n (by simp[AV.names])
theorem jjl(i:∀o x,σ o=some x->U o/\ NBo U x){o es k j:Nat}{cs:List AV}(hW:∀n,(n=o \/n∈jan cs)->W n):jcw U nm W (jcd ty σ nm o es k j cs):=by
 have key:∀{p:Prop}{rd ns:List Nat}{x:Obj'},U o->(∀n∈ns,n∈jan cs)->NBo (Un U nm) x->jcw U nm W (.det p rd .und (jfu ns++[(o,some x)])):=by
  intro p rd ns x hU a h;refine jaq fun _=>⟨by unfold NB;trivial,fun p hp=>?_,fun p hp z d=>?_⟩
  ·rcases List.mem_append.1 hp with hp|hp
   ·exact .inr (hW _ (.inr (a _ (jgz hp).1)))
   ·simp at hp;subst hp;exact .inr (hW _ (.inl rfl))
  ·rcases List.mem_append.1 hp with hp|hp
   ·rw[(jgz hp).2]at d;cases d
   ·simp at hp;subst hp;simp at d;subst d;exact⟨ja3 hU,h⟩
 unfold jcd;split
 ·rename_i e es' mask l g hole f;have c:=i _ _ f;split
  ·rename_i E ds ns q hE b;obtain⟨_,m,_⟩:=jc8 b;have a:∀n∈ns,n∈jan cs:=fun n c=>ji5 (by rw[<-m];exact c);split
   ·split
    ·exact key c.1 a jbl
    ·split
     ·split
      ·exact key c.1 a jbl
      ·exact jad
     ·exact jad
   ·exact jad
  ·exact jad
 ·exact jad
theorem jib{el:TypeId}{E:TyE}{s:AV}{c:Nat}(hW:∀n,(n=c \/n∈s.names)->W n):jcw U nm W (jce σ nm el E s c):=by
 unfold jce;split
 ·split
  ·split
   ·refine jaq fun _=>⟨jb3 _ jbl,fun p a=>?_,fun p a z b=>?_⟩
    ·simp only[List.mem_cons,List.not_mem_nil,or_false]at a;rcases a with rfl|rfl
     ·exact .inr (hW _ (.inl rfl))
     ·exact .inl ⟨Nat.le_refl _,by show nm<nm+16;omega⟩
    ·simp only[List.mem_cons,List.not_mem_nil,or_false]at a;rcases a with rfl|rfl
     ·simp at b
     ·simp at b;subst b;exact⟨jbl,jbl⟩
   ·split
    ·split
     ·refine jaq fun _=>⟨jb3 _ jbl,fun p a=>?_,fun p a z b=>?_⟩
      ·simp only[List.mem_cons,List.not_mem_nil,or_false]at a;rcases a with rfl|rfl|rfl
       ·exact .inr (hW _ (.inr (by simp[AV.names])))
       ·exact .inr (hW _ (.inl rfl))
       ·exact .inl ⟨Nat.le_refl _,by show nm<nm+16;omega⟩
      ·simp only[List.mem_cons,List.not_mem_nil,or_false]at a;rcases a with rfl|rfl|rfl
       ·simp at b
       ·simp at b
       ·simp at b;subst b;exact⟨jbl,jbl⟩
     ·exact jad
    ·exact jad
   ·exact jad
  ·exact jad
 ·exact jad
theorem jic(e:∀o x,σ o=some x->U o/\ NBo U x){el:TypeId}{E:TyE}{o g k j:Nat}{f:List D}{rd:List Nat}(hW:W o):jcw U nm W (jb8 σ nm el E o g k j f rd):=by
 unfold jb8;split
 ·rename_i t d;have c:=e _ _ (jbp d);split
  ·split
   ·refine jaq fun _=>⟨jb3 _ jbl,fun p a=>?_,fun p a z b=>?_⟩
    ·simp only[List.mem_cons,List.not_mem_nil,or_false]at a;rcases a with rfl|rfl
     ·exact .inr hW
     ·exact .inl ⟨Nat.le_refl _,by show nm<nm+16;omega⟩
    ·simp only[List.mem_cons,List.not_mem_nil,or_false]at a;rcases a with rfl|rfl
     ·simp at b;subst b;exact⟨ja3 c.1,ja3 c.2⟩
     ·simp at b;subst b;exact⟨jbl,trivial⟩
   ·exact jad
  ·exact jad
 ·exact jad
theorem jdq{mask:List (Option TypeId)}{agg:Bool}{es:Nat}:∀{ps:List (Nat×AV)}{k:Nat}{ds:List D}{ns:List Nat},jbw ty σ nm mask agg es k ps=some (ds,ns)->∀n∈ns,n∈jan (ps.map (·.2))
 |[],k,ds,ns,h=>by simp[jbw]at h;obtain⟨_,rfl⟩:=h;simp
 |(i,x)::ps,k,ds,ns,h=>by
  unfold jbw at h;split at h
  ·split at h
   ·rename_i cs b;split at h
    ·split at h
     ·rename_i c f r e a d;obtain⟨_,g,_⟩:=jc8 a;split at h
      ·simp only[Option.some.injEq,Prod.mk.injEq]at h;obtain⟨_,rfl⟩:=h;intro n hn;simp only[List.map_cons];unfold jan;rcases List.mem_append.1 hn with hn|hn
       ·exact List.mem_append_left _ (jdh b n (ji5 (by rw[<-g];exact hn)))
       ·exact List.mem_append_right _ (jdq d n hn)
      ·cases h
     ·cases h
    ·cases h
   ·cases h
  ·cases h

theorem jro{U:Nat->Prop}{x:AV}{l:List AV}(b:aggC x=some l)(c:NB U x):NBs U l:=by
 unfold aggC at b;split at b
 ·cases b;unfold NB at c;exact c
 ·rename_i l0;cases b
  induction l0 with
  |nil=>simp only[List.map_nil];unfold NBs;trivial
  |cons a l d=>simp only[List.map_cons];unfold NBs;exact⟨by unfold NB;trivial,d (by unfold NB;trivial)⟩
 ·cases b
theorem jo6(O:Live Γ){e:Operand->AV}(aw:∀f,e (.func f)=.fn f [])(C:∀x,NB U (e x))(hσ:∀o x,σ o=some x->U o/\ NBo U x){o:Oper}:
  jcw U nm (fun n=>mutB ty Γ o=true/\ n∈jbt σ e o) (spec ty Γ σ e nm o):=by
 obtain⟨ae,op,X,pos,F,G⟩:=o;cases op with
 |move x=>exact jaq fun _=>jas (C x)
 |assign x=>exact jaq fun _=>jas (C x)
 |pick c a b=>
  unfold spec;simp only[];split
  ·exact jf4 (jaq fun _=>jas (C a)) (jaq fun _=>jas (C b))
  ·exact jad
 |alloc t=>
  unfold spec;simp only[];split
  ·split
   ·exact jcy (by unfold NB;exact jbl) trivial
   ·split
    ·exact jcy (jpt _ _ jbl) ji1
    ·exact jad
  ·exact jad
 |box t x=>
  unfold spec;simp only[];split
  ·rename_i cs aa;exact jcy (jpt _ _ jbl) (NBs.mono (fun _ h=>ja3 h) (jkl aa (C x)))
  ·exact jad
 |load t a=>
  unfold spec;simp only[];unfold jbe;split
  ·exact jad
  ·split
   ·split
    ·rename_i l L;have O:=(hσ _ _ L).2;split
     ·split
      ·exact jaq fun _=>jas (jca ((NBs.drop _ O).take _))
      ·exact jad
     ·split
      ·rename_i v hv;exact jaq fun _=>jas (NBs.at _ v O hv)
      ·exact jad
    ·exact jad
   ·split
    ·split
     ·split<;>exact jaw
     ·exact jad
    ·exact jkt hσ
    ·exact jad
   ·exact jku
   ·split
    ·exact jaw
    ·split
     ·exact jaw
     ·exact jad
   ·exact jad
 |store t a x=>
  have H:=C a;unfold spec;simp only[];unfold jb2;split
  ·rename_i T cs hT aa;have ar:=jkl aa (C x);split
   ·split
    ·rename_i ob i w;rw[w]at H;unfold NB at H;split
     ·rename_i l L;split
      ·exact jc1 ⟨rfl,by simp[jbt,ja6,w,AV.names]⟩ H (NBs.spl (hσ _ _ L).2 ar)
      ·exact jad
     ·exact jad
    ·rename_i ob es k j w;rw[w]at H;unfold NB at H;split
     ·split
      ·split
       ·split
        ·split
         ·exact jc1 ⟨rfl,by simp[jbt,ja6,w,AV.names]⟩ H trivial
         ·split
          ·split
           ·exact jc1 ⟨rfl,by simp[jbt,ja6,w,AV.names]⟩ H trivial
           ·exact jad
          ·exact jad
        ·exact jad
       ·exact jad
      ·exact jad
     ·refine jjl hσ (fun n hn=>⟨rfl,?_⟩);refine List.mem_append_left _ ?_;simp only[ja6,w];rcases hn with rfl|hn
      ·exact List.mem_cons_self ..
      ·exact List.mem_cons_of_mem _ (jdh aa n hn)
     ·exact jad
    ·rename_i ob g k j es i c w;split
     ·exact jjm hσ ⟨rfl,by simp[jbt,ja6,w,AV.names]⟩
     ·exact jad
    ·exact jad
   ·exact jad
  ·exact jad
 |nilCheck x=>
  have w:=C x;unfold spec;simp only[];split
  ·rename_i h;rw[h]at w;exact jaq fun _=>jas w
  ·rename_i h;rw[h]at w;exact jaq fun _=>jas w
  ·rename_i h;rw[h]at w;exact jaq fun _=>jas w
  ·rename_i h;rw[h]at w;exact jaq fun _=>jas w
  ·exact jad
 |binOp op t x y u=>exact jrx
 |unOp op t x=>
  cases op
  case not=>
   unfold spec;simp only[];split
   ·exact jc2
   ·exact jad
  case neg=>
   unfold spec;simp only[];split
   ·exact jix
   ·exact jad
  all_goals exact jad
 |convert s d x=>
  unfold spec;simp only[];split
  ·exact jaw
  ·unfold jeu;split
   ·split
    ·exact jaw
    ·exact jad
   ·split
    ·exact jcy (jb3 _ jbl) trivial
    ·exact jad
   ·exact jad
 |slice t x lo hi mx=>
  cases mx with
  |some m=>exact jad
  |none=>
   unfold spec;simp only[];unfold jed;split
   ·split
    ·split
     ·exact jaw
     ·split
      ·exact jaw
      ·exact jad
    ·exact jad
   ·rename_i az O;split
    ·unfold jlx;split
     ·rename_i ob A;split
      ·rename_i cs L;split
       ·split
        ·refine jaq fun _=>⟨by unfold NB;trivial,fun q R=>?_,fun q R y B=>?_⟩
         ·simp at R;subst R;exact .inr ⟨by simp only[mutB,jsv];rw[az];simp,by simp[jbt,ja6,A,AV.names]⟩
         ·simp at R;subst R;cases B
        ·exact jad
       ·exact jad
      ·exact jad
     ·exact jad
    ·exact jad
   ·split
    ·split
     ·split
      ·exact jaw
      ·split
       ·exact jaw
       ·exact jad
     ·exact jad
    ·rename_i el E ob au A;have key:∀{p:Prop}{rd:List Nat}{a:TypeId}{b:Nat}{l:List D},jcw U nm (fun n=>mutB ty Γ ⟨ae,.slice t x lo hi none,X,pos,F,G⟩=true/\ n∈jbt σ e ⟨ae,.slice t x lo hi none,X,pos,F,G⟩) (.det p rd (.own nm) [(ob,none),(nm,some (.arr a b l))]):=by
      intro p rd a b l;refine jaq fun _=>⟨jb3 _ jbl,fun q R=>?_,fun q R y B=>?_⟩
      ·simp at R;rcases R with rfl|rfl
       ·exact .inr ⟨by simp only[mutB];rw[au];rfl,by simp[jbt,ja6,A,AV.names]⟩
       ·exact .inl ⟨Nat.le_refl _,by show nm<nm+16;omega⟩
      ·simp at R;rcases R with rfl|rfl
       ·cases B
       ·simp at B;subst B;exact⟨jbl,trivial⟩
     split
     ·split
      ·split
       ·exact key
       ·split
        ·exact key
        ·exact jad
      ·exact jad
     ·exact jad
    ·rename_i A;have w:=C x;rw[A]at w;split
     ·split
      ·unfold jdl;split
       ·split
        ·refine jaq fun _=>jas ?_;unfold NB at w ⊢;exact w
        ·exact jad
       ·exact jad
      ·exact jad
     ·exact jad
    ·exact jad
   ·exact jad
 |fieldAddr s x f=>
  have w:=C x;unfold spec;simp only[];unfold jdw;split
  ·exact jad
  ·split
   ·rename_i h;rw[h]at w;refine jaq fun _=>jas ?_;unfold NB at w ⊢;exact w
   ·rename_i h;rw[h]at w;refine jaq fun _=>jas ?_;unfold NB at w ⊢;exact w
   ·rename_i h;rw[h]at w;refine jaq fun _=>jas ?_;unfold NB at w ⊢;exact w
   ·refine jaq fun _=>jas ?_;unfold NB;trivial
   ·exact jad
 |indexAddr t x i=>
  have w:=C x;unfold spec;simp only[];unfold jcm;split
  ·split
   ·split
    ·refine jaq fun _=>jas ?_;unfold NB;trivial
    ·exact jad
   ·rename_i h;rw[h]at w;split
    ·split
     ·refine jaq fun _=>jas ?_;unfold NB at w ⊢;exact w
     ·exact jad
    ·split
     ·refine jaq fun _=>jas ?_;unfold NB at w ⊢;exact w
     ·exact jad
    ·exact jad
   ·rename_i h;rw[h]at w;unfold jcz;split
    ·split
     ·refine jaq fun _=>jas ?_;unfold NB at w ⊢;exact w
     ·exact jad
    ·exact jad
   ·rename_i h;rw[h]at w;split
    ·refine jaq fun _=>jas ?_;unfold NB at w ⊢;exact w
    ·exact jad
   ·exact jad
  ·unfold jkm;split
   ·split
    ·split
     ·rename_i h;rw[h]at w;refine jaq fun _=>jas ?_;unfold NB at w ⊢;exact w
     ·rename_i h;rw[h]at w;split
      ·refine jaq fun _=>jas ?_;unfold NB at w ⊢;exact w
      ·refine jaq fun _=>jas ?_;unfold NB at w ⊢;exact w
     ·rename_i h;rw[h]at w;refine jaq fun _=>jas ?_;unfold NB at w ⊢;exact w
     ·refine jaq fun _=>jas ?_;unfold NB;trivial
     ·exact jad
    ·exact jad
   ·exact jad
  ·exact jad
 |index t x i=>
  have w:=C x;unfold spec;simp only[];split
  ·exact jaw
  ·unfold jnx;split
   ·split
    ·rename_i O;have Q:NBs U _:=(jro O w);split
     ·split
      ·exact jaq fun _=>jas (jca ((NBs.drop _ Q).take _))
      ·exact jad
     ·split
      ·rename_i v hv;exact jaq fun _=>jas (NBs.at _ v Q hv)
      ·exact jad
    ·exact jad
   ·exact jad
 |field s x f=>
  have w:=C x;unfold spec;simp only[jlv];split
  ·split
   ·split
    ·rename_i O;have Q:NBs U _:=(jro O w);split
     ·split
      ·exact jaq fun _=>jas (jca ((NBs.drop _ Q).take _))
      ·exact jad
     ·split
      ·rename_i v hv;exact jaq fun _=>jas (NBs.at _ v Q hv)
      ·exact jad
    ·exact jad
   ·exact jad
  ·exact jad
 |extract x i=>
  have w:=C x;unfold spec;simp only[];split
  ·rename_i l h;rw[h]at w;unfold NB at w;split
   ·rename_i v hv;exact jaq fun _=>jas (NBs.at _ v w hv)
   ·exact jad
  ·exact jad
 |build t I=>
  unfold spec;simp only[];unfold jeh;split
  ·split
   ·split
    ·rename_i cells hc;exact jaq fun _=>jas (jca (jkf C I.toList _ cells ji1 hc))
    ·exact jad
   ·exact jad
  ·split
   ·split
    ·split
     ·rename_i cells hc;exact jaq fun _=>jas (jca (jkf C I.toList _ cells ji1 hc))
     ·exact jad
    ·exact jad
   ·exact jad
  ·exact jad
 |buildSlice t len I=>
  unfold spec;simp only[];unfold jbg;split
  ·split
   ·split
    ·exact jcy (jb3 _ jbl) trivial
    ·split
     ·rename_i ay;split
      ·rename_i ds ns ak;have ao:=jdq ak;refine jaq fun _=>⟨jb3 _ jbl,fun p hp=>?_,fun p hp z Y=>?_⟩
       ·rcases List.mem_append.1 hp with hp|hp
        ·obtain⟨J,M⟩:=jgz hp;refine .inr ⟨by simp only[mutB];rw[‹jbs ty t=_›];exact ay,?_⟩;refine List.mem_append_left _ ?_;simp only[ja6];have:=ao p.1 J;rw[List.map_map]at this;exact this
        ·simp at hp;subst hp;exact .inl ⟨Nat.le_refl _,by show nm<nm+16;omega⟩
       ·rcases List.mem_append.1 hp with hp|hp
        ·obtain⟨J,M⟩:=jgz hp;rw[M]at Y;cases Y
        ·simp at hp;subst hp;simp at Y;subst Y;exact⟨jbl,jbl⟩
      ·exact jad
     ·exact jad
   ·exact jad
  ·exact jad
 |makeMap t r=>
  cases r with
  |none=>
   unfold spec;simp only[];unfold jdc;split
   ·exact jcy (jb3 _ jbl) trivial
   ·exact jad
  |some r=>exact jad
 |lookup t x i ok=>
  cases ok with
  |true=>
   unfold spec;simp only[];unfold jc4;split
   ·split
    ·refine jaq fun _=>jas ?_;unfold NB NBs;exact⟨by unfold NB;trivial,by unfold NBs;exact⟨by unfold NB;trivial,by unfold NBs;trivial⟩⟩
    ·exact jad
   ·exact jad
  |false=>exact jad
 |mapUpdate t x i v=>
  unfold spec;simp only[];unfold jc3;split
  ·rename_i E ob t' l k d hm w hi hd;obtain⟨A,L⟩:=jhp w;split
   ·exact jc1 ⟨rfl,by simp[jbt,ja6,A,AV.names]⟩ (hσ _ _ L).1 trivial
   ·exact jad
  ·exact jad
 |makeSlice t l c=>
  unfold spec;simp only[];unfold jgy;split
  ·split
   ·split
    ·split
     ·exact jcy (jb3 _ jbl) trivial
     ·exact jcy (jb3 _ jbl) jbl
    ·exact jad
   ·exact jad
  ·exact jad
 |call c=>
  obtain⟨callee,args,argTypes⟩:=c;cases callee with
  |value c=>
   unfold spec;simp only[];split
   ·rename_i f ac aj;unfold jbi;cases hS:Γ f with
    |none=>exact jad
    |some S=>
     simp only[];split
     ·exact jad
     ·rename_i ds aE aF Z;obtain⟨⟨aq,ns,rd⟩,N,K⟩:=Option.map_eq_some_iff.1 Z;simp only[Prod.mk.injEq]at K;obtain⟨ak,rfl,rfl⟩:=K;split
      ·exact jad
      ·rename_i obs ap;intro hp;obtain⟨_,p1,p2,p3,p5,p4⟩:=(show _/\ _/\ _/\ _/\ _/\ _ from hp);refine⟨?_,?_⟩
       ·obtain⟨r,new,obs',hr⟩:=O f S hS ds obs p1;exact⟨_,_,r,new,obs',hr,rfl,rfl⟩
       rintro av δ ⟨r,new,obs',ah,rfl,rfl⟩;have V:=p4 r new obs' ah;obtain⟨aD,ax⟩:=jdb ap;have g1:=jc5 S.lend _ aq ns rd N;have P:∀(f:Nat->Nat)(ns:List Nat)(obs:List Obj')(g:Nat),∀p∈jgq f g ns obs,p.1∈ns/\ ∀x,p.2=some x->∃y q,y∈obs/\ x=(y.ren f).regen q/\ g<=q/\ q<g+obs.length:=by
        intro f ns
        induction ns with
        |nil=>intro obs g p hp;simp[jgq]at hp
        |cons n ns ih=>
         intro obs g p hp;cases obs with
         |nil=>
          simp only[jgq,List.mem_cons]at hp;rcases hp with rfl|hp
          ·exact⟨List.mem_cons_self ..,fun y B=>by cases B⟩
          ·obtain⟨J,M⟩:=ih [] (g+1) p hp;refine⟨List.mem_cons_of_mem _ J,fun y B=>?_⟩;obtain⟨z,q,k1,k2,k3,k4⟩:=M y B;cases k1
         |cons x obs=>
          simp only[jgq,List.mem_cons]at hp;rcases hp with rfl|hp
          ·exact⟨List.mem_cons_self ..,fun y B=>by simp at B;subst B;exact⟨x,g,List.mem_cons_self ..,rfl,Nat.le_refl _,by simp⟩⟩
          ·obtain⟨J,M⟩:=ih obs (g+1) p hp;refine⟨List.mem_cons_of_mem _ J,fun y B=>?_⟩;obtain⟨z,q,k1,k2,k3,k4⟩:=M y B;exact⟨z,q,List.mem_cons_of_mem _ k1,k2,by omega,by simp only[List.length_cons];omega⟩
       have ad:∀(f:Nat->Nat)(new:List Obj')(k:Nat),∀p∈newF f k new,k<=p.1/\ p.1<k+new.length/\ ∀x,p.2=some x->∃z,z∈new/\ x=(z.ren f).regen p.1:=by
        intro f new
        induction new with
        |nil=>intro k p hp;simp[newF]at hp
        |cons x new ih=>
         intro k p hp;simp only[newF,List.mem_cons]at hp;rcases hp with rfl|hp
         ·exact⟨Nat.le_refl _,by simp,fun y B=>by simp at B;exact⟨x,List.mem_cons_self ..,B.symm⟩⟩
         ·obtain⟨J,M,h3⟩:=ih (k+1) p hp;exact⟨by omega,by simp only[List.length_cons];omega,fun y B=>by
           obtain⟨z,Y,ai⟩:=h3 y B;exact⟨z,List.mem_cons_of_mem _ Y,ai⟩⟩
       have hU:∀n∈ns,U n:=fun n hn=>by
        obtain⟨j,hj⟩:=List.getElem?_of_mem hn;obtain⟨x,_,w⟩:=ax j n hj;exact(hσ n x w).1
       have few:=V.few;refine⟨NB.shift (by omega) V.nbr,fun p hp=>?_,fun p hp x w=>?_⟩
       ·rcases List.mem_append.1 hp with hp|hp
        ·have af:=(P _ ns obs' _ p hp).1;refine .inr ⟨?_,?_⟩
         ·cases c with
          |func f'=>
           have am:=aw f';rw[aj]at am;cases am;unfold mutB;simp only[hS];cases O:jr8 S.lend with
           |true=>rfl
           |false=>rw[jow N O]at af;cases af
          |_=>rfl
         ·have:=g1 p.1 af;have h0:ja6 e ⟨ae,.call ⟨.value c,args,argTypes⟩,X,pos,F,G⟩=jan (args.toList.map e++ac):=by
           simp only[ja6,jd5,aj];rw[jd2]
           conv=>lhs;arg 2;unfold AV.names
          simp only[jbt,xset];rw[h0];exact this
        ·obtain⟨J,M,_⟩:=ad _ new nm p hp;exact .inl ⟨J,by omega⟩
       ·rcases List.mem_append.1 hp with hp|hp
        ·obtain⟨J,M⟩:=P _ ns obs' _ p hp;obtain⟨z,q,k1,rfl,k3,k4⟩:=M x w;have:=V.same;exact⟨ja3 (hU p.1 J),NBl.nbo (.inr ⟨by omega,by omega⟩) (fun i hi=>by
          show Un U nm (jgp nm ns obs'.length i);unfold jgp;cases hb:Nat.blt i obs'.length with
          |false=>exact .inr ⟨by simp only[cond_false];omega,by simp only[cond_false];omega⟩
          |true=>
          have aC:i<obs'.length:=by simpa[Nat.blt_eq]using hb
          simp only[cond_true];have hin:i<ns.length:=by omega
          have e1:ns.getD i 0=ns[i]'hin:=by rw[List.getD_eq_getElem?_getD,List.getElem?_eq_getElem hin];rfl
          rw[e1];exact ja3 (hU _ (List.getElem_mem hin))) (V.nbo.2 z k1)⟩
        ·obtain⟨J,M,h4⟩:=ad _ new nm p hp;obtain⟨z,aB,ai⟩:=h4 x w;subst ai;exact⟨.inr ⟨J,by omega⟩,NBl.nbo (.inr ⟨J,by omega⟩) (fun i hi=>.inr ⟨by omega,by omega⟩) (V.nbo.1 z aB)⟩
   ·exact jad
  |invoke r m=>exact jad
  |builtin b=>
   cases b
   case len=>
    unfold spec;simp only[];split
    ·unfold je4;split
     ·split
      ·exact jaw
      ·exact jad
     ·split
      ·exact jaw
      ·exact jaw
      ·split
       ·exact jaw
       ·exact jaw
       ·exact jad
      ·unfold jfk;split
       ·split
        ·exact jaw
        ·exact jad
       ·exact jad
      ·exact jaw
      ·exact jad
     ·exact jad
    ·exact jad
   case append=>
    unfold spec;simp only[];split
    ·rename_i x y t t' w ht;have A:=C x;unfold jc7;split
     ·split
      ·split
       ·split
        ·exact jcy (jb3 _ jbl) trivial
        ·rename_i ob ab;rw[ab]at A;unfold NB at A;split
         ·split
          ·refine jaq fun _=>⟨jb3 _ jbl,fun p hp=>?_,fun p hp z Y=>?_⟩
           ·simp only[List.mem_cons,List.not_mem_nil,or_false]at hp;rcases hp with rfl|rfl
            ·exact .inr ⟨rfl,by simp[jbt,ja6,w,jan,ab,AV.names]⟩
            ·exact .inl ⟨Nat.le_refl _,by show nm<nm+16;omega⟩
           ·simp only[List.mem_cons,List.not_mem_nil,or_false]at hp;rcases hp with rfl|rfl
            ·simp at Y
            ·simp at Y;subst Y;exact⟨jbl,trivial⟩
          ·exact jad
         ·exact jad
        ·rename_i ob g k j ab;refine jic hσ ⟨rfl,?_⟩;simp[jbt,ja6,w,jan,ab,AV.names]
        ·exact jad
       ·split
        ·rename_i o2 aA;refine jib (fun n hn=>⟨rfl,?_⟩);refine List.mem_append_left _ ?_;simp only[ja6,jd5,w,List.map_cons,List.map_nil,jan,List.append_nil];rcases hn with rfl|hn
         ·exact List.mem_append_right _ (by rw[aA];simp[AV.names])
         ·exact List.mem_append_left _ hn
        ·exact jad
      ·exact jad
     ·exact jad
    ·exact jad
   case max=>
    unfold spec;simp only[];split
    ·split
     ·exact jaw
     ·exact jad
    ·split
     ·exact jaw
     ·exact jad
    ·exact jad
   case min=>
    unfold spec;simp only[];split
    ·split
     ·exact jaw
     ·exact jad
    ·exact jad
   all_goals exact jad
 |makeFunc fn first ac=>
  cases fn with
  |func f=>
   unfold spec;simp only[];split
   ·exact jaq fun _=>jas (by unfold NB;exact jmi C _)
   ·exact jad
  |_=>exact jad
 |_=>exact jad

end
end Go.Ab
