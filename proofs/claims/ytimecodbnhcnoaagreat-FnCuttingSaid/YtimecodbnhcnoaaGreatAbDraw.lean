/- My own layer, fifteenth part: regions that draw their order: the text's order serves for all. -/
import Derived.Test.YtimecodbnhcnoaaGreatAbWeak
import Derived.Still
namespace Go.Ab
set_option linter.unusedVariables false
set_option linter.unusedSimpArgs false

mutual
def AV.names:AV->List Nat
 | .own o| .ref o _| .eref o _ _ _| .row o _ _ _| .rref o _ _ _ _ _ _| .vw o _ _ _ _ _ _=>[o]
 | .aggv l| .tup l| .fn _ l=>jan l
 |_=>[]
def jan:List AV->List Nat
 |[]=>[]
 |x::l=>x.names++jan l
end

def jd5(e:Operand->AV):Callee->List Nat
 | .value c=>(e c).names
 |_=>[]
def ja6(e:Operand->AV)(o:Oper):List Nat:=
 match o.op with
 | .load _ a=>(e a).names
 | .store _ a x=>match e a with
  | .eref o _ _ _=>o::(e x).names
  |y=>y.names
 | .buildSlice _ _ b=>jan (b.toList.map fun p=>e p.2)
 | .indexAddr _ x _=>(e x).names
 | .lookup _ x _ _=>(e x).names
 | .mapUpdate _ x _ _=>(e x).names
 | .convert _ _ x=>(e x).names
 | .slice _ x _ _ _=>(e x).names
 | .call {callee,args,..}=>jan (args.toList.map e)++jd5 e callee
 |_=>[]

def inn(σ:Objs):List Nat->List Nat
 |[]=>[]
 |o::r=>(match σ o with
  |some (.box _ l)=>jgo l
  |_=>[])++inn σ r
def xset(σ:Objs)(e:Operand->AV)(o:Oper):List Nat:=
 match o.op with
 | .call {callee:=.value _,..}=>inn σ (ja6 e o)
 |_=>[]
def jbt(σ:Objs)(e:Operand->AV)(o:Oper):List Nat:=ja6 e o++xset σ e o
def jr8(ls:List Pt):Bool:=Nat.blt 0 (Pt.ns ls)
def nrB:List AV->Bool
 |[]=>true
 | .dat _::l| .own _::l| .ref _ _::l| .und::l| .unk::l=>nrB l
 |_=>false
def jrd(σ:Objs)(n:Nat):Bool:=match σ n with
 |some (.box _ l)=>nrB l
 |_=>false
def joq(σ:Objs)(kp ns ls:List Nat):List Nat:=(kp.filterMap fun j=>ns[j]?).filter fun n=>bif ls.any (fun m=>Nat.beq n m)then jrd σ n else false
def jfs(Γ:Nat->Option FnSpec)(σ:Objs)(e:Operand->AV)(o:Oper):List Nat:=
 match o.op with
 | .call {callee:=.value (.func f),args,..}=>match Γ f with
  |some S=>match ja8 σ S.lend (args.toList.map e)with
   |some (_,ns,_)=>joq σ S.kp ns (jan (args.toList.map e))
   |none=>[]
  |none=>[]
 |_=>[]

def jsv(ty:TypeId->Option TyE)(t:TypeId):Bool:=match ty t with
 |some {desc:=.array _ _,..}=>true
 |_=>false

def mutB(ty:TypeId->Option TyE)(Γ:Nat->Option FnSpec)(o:Oper):Bool:=
 match o.op with
 | .store ..=>true
 | .mapUpdate ..=>true
 | .slice t _ _ _ _=>(jbs ty t).isSome||jsv ty t
 | .buildSlice t _ _=>match jbs ty t with
  |some (el,_)=>jur ty el
  |none=>false
 | .call {callee:=.builtin .append,..}=>true
 | .call {callee:=.value (.func f),..}=>match Γ f with
  |some S=>jr8 S.lend
  |none=>false
 | .call {callee:=.value _,..}=>true
 |_=>false

def jiu(Γ:Nat->Option FnSpec)(σ:Objs)(e:Operand->AV)(o:Oper):List Nat:=
 match o.op with
 | .call {callee:=.value (.func f),args,..}=>match Γ f with
  |some S=>match ja8 σ S.lend (args.toList.map e)with
   |some (_,ns,_)=>S.kc.filterMap fun p=>match ns[p.1]? with
    |some n=>bif Nat.blt p.2 1000 then some (n*1000+p.2)else none
    |none=>none
   |none=>[]
  |none=>[]
 |_=>[]
section
variable{P:Program}{cx:Cx}{κ:Kap}{F:Nat->Prop}{w:World}{U:Nat->Prop}{nm:Nat}{σ σ':Objs}{ty:TypeId->Option TyE}{Γ:Nat->Option FnSpec}

theorem jd2:∀(l l':List AV),jan (l++l')=jan l++jan l'
 |[],l'=>rfl
 |x::l,l'=>by
  simp only[List.cons_append];have a:jan (x::(l++l'))=x.names++jan (l++l'):=by conv=>lhs;unfold jan
  have b:jan (x::l)=x.names++jan l:=by conv=>lhs;unfold jan
  rw[a,b,jd2 l l',List.append_assoc]
theorem jp9{l:List AV}{x:AV}(hx:x∈l):∀n∈x.names,n∈jan l:=by
 induction l with
 |nil=>cases hx
 |cons y l b=>
  intro n a;unfold jan;rcases List.mem_cons.1 hx with rfl|hx
  ·exact List.mem_append_left _ a
  ·exact List.mem_append_right _ (b hx n a)

theorem jll:∀{l:List Nat},(∀n∈l,σ' n=σ n)->inn σ' l=inn σ l
 |[],_=>rfl
 |o::l,h=>by
  unfold inn;rw[h o (List.mem_cons_self ..),jll (l:=l) fun n a=>h n (List.mem_cons_of_mem _ a)]
theorem jtr{l:List Nat}{o n:Nat}{cs:List AV}{T:TypeId}(ho:o∈l)(c:σ o=some (.box T cs))(b:n∈jgo cs):n∈inn σ l:=by
 induction l with
 |nil=>cases ho
 |cons a l d=>
  unfold inn;rcases List.mem_cons.1 ho with rfl|ho
  ·rw[c];exact List.mem_append_left _ b
  ·exact List.mem_append_right _ (d ho)
theorem ji4:∀{l:List AV},(∀n∈jan l,σ' n=σ n)->rdD.go σ' l=rdD.go σ l
 |[],_=>rfl
 |x::l,h=>by
  have b:=ji4 (l:=l) (fun n a=>h n (by unfold jan;exact List.mem_append_right _ a));have c:∀n∈x.names,σ' n=σ n:=fun n a=>h n (by unfold jan;exact List.mem_append_left _ a);cases x with
  |dat d=>simp only[rdD.go,b]
  |own o=>simp only[rdD.go,b,slO,c o (by simp[AV.names])]
  |_=>simp only[rdD.go]

theorem jpx{x:AV}(h:∀n∈x.names,σ' n=σ n):rdD σ' x=rdD σ x:=by
 cases x with
 |own o=>simp only[rdD,slO,h o (by simp[AV.names])]
 |aggv l=>simp only[rdD,ji4 (l:=l) (fun n a=>h n (by unfold AV.names;exact a))]
 |_=>rfl

theorem ji0{es:Nat}{x:AV}(h:∀n∈x.names,σ' n=σ n):slOf σ' es x=slOf σ es x:=by
 cases x with
 |own o=>simp only[slOf,h o (by simp[AV.names])]
 |dat d=>
  cases d with
  |sc v=>
   cases v
   case slice a n c=>cases a<;>cases n<;>cases c<;>rfl
   all_goals rfl
  |_=>rfl
 |_=>rfl

theorem jpv{x:AV}(h:∀n∈x.names,σ' n=σ n):rdV σ' x=rdV σ x:=by
 cases x with
 |vw o g k j es lo n=>simp only[rdV,jb0,h o (by simp[AV.names])]
 |_=>exact jpx h
mutual
theorem jrk:∀(p:Pt)(x:AV),(∀n∈x.names,σ' n=σ n)->ja2 σ' p x=ja2 σ p x
 | .rd,x,h=>by unfold ja2;rw[jpv h]
 | .zr,x,h=>by cases x<;>rfl
 | .sl,x,h=>by cases x<;>rfl
 | .bx,x,h=>by
  cases x with
  |ref o i=>cases i<;>simp only[ja2]
  |_=>simp only[ja2]
 | .bo k,x,h=>by
  cases x with
  |ref o i=>cases i<;>simp only[ja2,h o (by simp[AV.names])]
  |_=>simp only[ja2]
 | .ag l,x,h=>by
  cases x with
  |aggv xs=>
   have:=jc6 l xs (by unfold AV.names at h;exact h);simp only[ja2,this]
  |_=>simp only[ja2]
 | .fn f l,x,h=>by
  cases x with
  |fn a xs=>
   have:=jc6 l xs (by unfold AV.names at h;exact h);simp only[ja2,this]
  |_=>simp only[ja2]
theorem jc6:∀(ls:List Pt)(xs:List AV),(∀n∈jan xs,σ' n=σ n)->ja8 σ' ls xs=ja8 σ ls xs
 |[],[],_=>by simp only[ja8]
 |[],x::xs,_=>by simp only[ja8]
 |p::ls,[],_=>by simp only[ja8]
 |p::ls,x::xs,h=>by
  have c:=jc6 ls xs (fun n a=>h n (by unfold jan;exact List.mem_append_right _ a));have b:=jrk p x (fun n a=>h n (by unfold jan;exact List.mem_append_left _ a));simp only[ja8,c,b]
end
theorem jja:∀(l l':List Nat),inn σ (l++l')=inn σ l++inn σ l'
 |[],l'=>rfl
 |o::l,l'=>by
  simp only[List.cons_append];have a:∀r:List Nat,inn σ (o::r)=(match σ o with
   |some (.box _ l)=>jgo l
   |_=>[])++inn σ r:=fun r=>by conv=>lhs;unfold inn
  rw[a,a,jja l l',List.append_assoc]
mutual
theorem jrj:∀(p:Pt)(x:AV)(d:D)(ns rd:List Nat),ja2 σ p x=some (d,ns,rd)->∀n∈ns,n∈x.names++inn σ x.names
 | .rd,x,d,ns,rd,h=>by
  unfold ja2 at h;split at h
  ·cases h;simp
  ·cases h
 | .zr,x,d,ns,rd,h=>by
  cases x with
  |dat j=>
   simp only[ja2,Option.some.injEq,Prod.mk.injEq]at h;obtain⟨rfl,rfl,rfl⟩:=h;simp
  |_=>simp[ja2]at h
 | .sl,x,d,ns,rd,h=>by
  cases x with
  |own o=>
   simp only[ja2,Option.some.injEq,Prod.mk.injEq]at h;obtain⟨rfl,rfl,rfl⟩:=h;simp[AV.names]
  |_=>simp[ja2]at h
 | .bx,x,d,ns,rd,h=>by
  cases x with
  |ref o i=>
   cases i with
   |zero=>
    simp only[ja2,Option.some.injEq,Prod.mk.injEq]at h;obtain⟨rfl,rfl,rfl⟩:=h;simp[AV.names]
   |succ i=>simp[ja2]at h
  |_=>simp[ja2]at h
 | .bo k,x,d,ns,rd,h=>by
  obtain⟨o,T,l,rfl,g,_,_,rfl,_⟩:=jn1 h;intro n hn;rcases List.mem_cons.1 hn with rfl|hn
  ·exact List.mem_append_left _ (by simp[AV.names])
  ·exact List.mem_append_right _ (jtr (by simp[AV.names]) g hn)
 | .ag l,x,d,ns,rd,h=>by
  cases x with
  |aggv xs=>
   unfold ja2 at h;split at h
   ·rename_i ds b c a;cases h;unfold AV.names;exact jc5 l xs ds ns rd a
   ·cases h
  |_=>simp[ja2]at h
 | .fn f l,x,d,ns,rd,h=>by
  cases x with
  |fn e xs=>
   unfold ja2 at h;split at h
   ·rename_i ds b c a;cases hb:Nat.beq f e with
    |false=>rw[hb]at h;cases h
    |true=>
     rw[hb]at h;cases h;unfold AV.names;exact jc5 l xs ds ns rd a
   ·cases h
  |_=>simp[ja2]at h
theorem jc5:∀(ls:List Pt)(xs:List AV)(ds:List D)(ns rd:List Nat),ja8 σ ls xs=some (ds,ns,rd)->∀n∈ns,n∈jan xs++inn σ (jan xs)
 |[],[],ds,ns,rd,h=>by simp[ja8]at h;obtain⟨_,rfl,_⟩:=h;simp
 |[],x::xs,ds,ns,rd,h=>by simp[ja8]at h
 |p::ls,[],ds,ns,rd,h=>by simp[ja8]at h
 |p::ls,x::xs,ds,ns,rd,h=>by
  unfold ja8 at h;split at h
  ·rename_i d b e a c f g i;cases h;intro n hn;unfold jan;rw[jja];rcases List.mem_append.1 hn with hn|hn
   ·rcases List.mem_append.1 (jrj p x d b e g n hn)with hn|hn
    ·exact List.mem_append_left _ (List.mem_append_left _ hn)
    ·exact List.mem_append_right _ (List.mem_append_left _ hn)
   ·rcases List.mem_append.1 (jc5 ls xs a c f i n hn)with hn|hn
    ·exact List.mem_append_left _ (List.mem_append_right _ hn)
    ·exact List.mem_append_right _ (List.mem_append_right _ hn)
  ·cases h
end
theorem jow{ls:List Pt}{xs:List AV}{ds:List D}{ns rd:List Nat}(h:ja8 σ ls xs=some (ds,ns,rd))(a:jr8 ls=false):ns=[]:=by
 have c:=jny ls xs ds ns rd h;unfold jr8 at a;have:Pt.ns ls=0:=by
  cases b:Pt.ns ls with
  |zero=>rfl
  |succ m=>rw[b]at a;cases a
 exact List.eq_nil_of_length_eq_zero (by omega)

theorem jhk{f:Nat->Nat}:∀{ns:List Nat},(∀n∈ns,σ' n=σ n)->jir σ' f ns=jir σ f ns
 |[],_=>rfl
 |o::ns,h=>by simp only[jir,h o (List.mem_cons_self ..),jhk (ns:=ns) (fun n a=>h n (List.mem_cons_of_mem _ a))]
theorem jlc{ns:List Nat}(h:∀n∈ns,σ' n=σ n):jex σ' ns=jex σ ns:=jhk h

mutual
theorem jol:∀(p:Pt)(x:AV),(∀n∈x.names,σ' n=σ n)->rowP σ' p x=rowP σ p x
 | .rd,x,h=>by
  cases x with
  |vw o g k j es lo n=>simp only[rowP,jb0,h o (by simp[AV.names])]
  |_=>rfl
 | .zr,x,h=>by cases x<;>rfl
 | .sl,x,h=>by cases x<;>rfl
 | .bx,x,h=>by cases x<;>rfl
 | .bo k,x,h=>by cases x<;>rfl
 | .ag l,x,h=>by
  cases x with
  |aggv xs=>simp only[rowP];exact jd0 l xs fun n a=>h n (by unfold AV.names;exact a)
  |_=>rfl
 | .fn f l,x,h=>by
  cases x with
  |fn b xs=>simp only[rowP];exact jd0 l xs fun n a=>h n (by unfold AV.names;exact a)
  |_=>rfl
theorem jd0:∀(ls:List Pt)(xs:List AV),(∀n∈jan xs,σ' n=σ n)->jds σ' ls xs=jds σ ls xs
 |[],xs,_=>by unfold jds;rfl
 |_::_,[],_=>by unfold jds;rfl
 |p::ls,x::xs,h=>by
  unfold jds;rw[jol p x fun n a=>h n (by unfold jan;exact List.mem_append_left _ a),jd0 ls xs fun n a=>h n (by unfold jan;exact List.mem_append_right _ a)]
end
theorem jov{f:Nat}{xs:List AV}{b:List TypeId}(h:∀n∈jan xs++inn σ (jan xs),σ' n=σ n):jbi ty Γ σ' nm f xs b=jbi ty Γ σ nm f xs b:=by
 unfold jbi;cases Γ f with
 |none=>rfl
 |some S=>
  simp only[jc6 S.lend xs fun n c=>h n (List.mem_append_left _ c),jd0 S.lend xs fun n c=>h n (List.mem_append_left _ c)];cases a:ja8 σ S.lend xs with
  |none=>rfl
  |some t=>
   obtain⟨ds,ns,rd⟩:=t;simp only[Option.map_some];have:=jlc (σ:=σ) (σ':=σ') (ns:=ns) (fun n c=>h n (jc5 S.lend xs ds ns rd a n c));simp only[this]

theorem jcp{o g:Nat}(h:σ' o=σ o):jb0 σ' o g=jb0 σ o g:=by unfold jb0;rw[h]
theorem jjn{T:TyE}{o es k j:Nat}(h:σ' o=σ o):jct σ' T o es k j=jct σ T o es k j:=by unfold jct;rw[h]
theorem jj1{T:TyE}{o g k j es i c:Nat}(h:σ' o=σ o):jda σ' T o g k j es i c=jda σ T o g k j es i c:=by unfold jda;rw[jcp h]
theorem jio{o g k j es i c:Nat}{ds:List D}(h:σ' o=σ o):jch ty σ' o g k j es i c ds=jch ty σ o g k j es i c ds:=by unfold jch;rw[jcp h]
theorem jiq{E:TyE}{o g k j:Nat}{n:Int}(h:σ' o=σ o):jcz σ' E o g k j n=jcz σ E o g k j n:=by unfold jcz;rw[jcp h]
theorem jip{E:TyE}{o g k j:Nat}{l a:Int}(h:σ' o=σ o):jdl σ' E o g k j l a=jdl σ E o g k j l a:=by unfold jdl;rw[jcp h]
theorem jk7{o g k j:Nat}(h:σ' o=σ o):jfk σ' o g k j=jfk σ o g k j:=by unfold jfk;rw[jcp h]
theorem jec{o g:Nat}{mask:List (Option TypeId)}{hole:Option (Nat×Nat)}{d:D}:∀{cs:List AV}{j:Nat},(∀n∈jan cs,σ' n=σ n)->jev ty σ' o g mask hole d j cs=jev ty σ o g mask hole d j cs
 |[],j,_=>rfl
 |x::cs,j,h=>by
  have f:=jec (o:=o) (g:=g) (mask:=mask) (hole:=hole) (d:=d) (cs:=cs) (j:=j+1) (fun n b=>h n (by unfold jan;exact List.mem_append_right _ b));have e:∀n∈x.names,σ' n=σ n:=fun n b=>h n (by unfold jan;exact List.mem_append_left _ b);unfold jev;rw[f];cases x with
  |own n=>simp only[e n (by simp[AV.names])]
  |dat d=>
   cases d with
   |sc v=>
    cases v
    case slice a n c=>cases a<;>cases n<;>cases c<;>rfl
    all_goals rfl
   |_=>rfl
  |_=>rfl
theorem jhn:∀{l:List D},jan (l.map .dat)=[]
 |[]=>rfl
 |d::l=>by
  simp only[List.map_cons];unfold jan;rw[jhn];simp[AV.names]
theorem jdh{x:AV}{cs:List AV}(h:x.cells=some cs):∀n∈jan cs,n∈x.names:=by
 have a:∀{y:AV},∀n∈jan [y],n∈y.names:=fun{y} n b=>by unfold jan at b;simpa[jan]using b
 intro n b;cases x with
 |dat d=>
  cases d with
  |agg l=>simp only[AV.cells,Option.some.injEq]at h;subst h;rw[jhn]at b;cases b
  |sc v=>simp only[AV.cells,Option.some.injEq]at h;subst h;exact a n b
  |sl e l=>simp only[AV.cells,Option.some.injEq]at h;subst h;exact a n b
 |aggv l=>simp only[AV.cells,Option.some.injEq]at h;subst h;unfold AV.names;exact b
 |tup l=>simp[AV.cells]at h
 |und=>simp[AV.cells]at h
 |unk=>simp[AV.cells]at h
 |_=>simp only[AV.cells,Option.some.injEq]at h;subst h;exact a n b
theorem jid{o es k j:Nat}{cs:List AV}(h:σ' o=σ o)(hc:∀n∈jan cs,σ' n=σ n):jcd ty σ' nm o es k j cs=jcd ty σ nm o es k j cs:=by
 unfold jcd;rw[h];split
 ·rw[jec hc]
 ·rfl
theorem jg6{el:TypeId}{E:TyE}{s:AV}{b:Nat}(h:σ' b=σ b)(hs:∀n∈s.names,σ' n=σ n):jce σ' nm el E s b=jce σ nm el E s b:=by
 unfold jce;rw[h];cases s with
 |own o=>simp only[hs o (by simp[AV.names])]
 |dat d=>
  cases d with
  |sc v=>
   cases v
   case slice a n c=>cases a<;>cases n<;>cases c<;>rfl
   all_goals rfl
  |_=>rfl
 |_=>rfl
theorem jhf{el:TypeId}{E:TyE}{o g k j:Nat}{a:List D}{rd:List Nat}(h:σ' o=σ o):jb8 σ' nm el E o g k j a rd=jb8 σ nm el E o g k j a rd:=by unfold jb8;rw[jcp h]
theorem jgg:∀{cs:List AV},(∀n∈jan cs,σ' n=σ n)->jcc σ' cs=jcc σ cs
 |[],_=>rfl
 |x::cs,h=>by
  have b:=jgg (cs:=cs) (fun n a=>h n (by unfold jan;exact List.mem_append_right _ a));have c:∀n∈x.names,σ' n=σ n:=fun n a=>h n (by unfold jan;exact List.mem_append_left _ a);cases x with
  |own n=>unfold jcc;simp only[b,c n (by simp[AV.names])]
  |_=>unfold jcc;rw[b]
theorem jey{mask:List (Option TypeId)}{agg:Bool}{es:Nat}:∀{ps:List (Nat×AV)}{k:Nat},(∀n∈jan (ps.map (·.2)),σ' n=σ n)->jbw ty σ' nm mask agg es k ps=jbw ty σ nm mask agg es k ps
 |[],k,_=>rfl
 |(i,x)::ps,k,h=>by
  have c:=jey (mask:=mask) (agg:=agg) (es:=es) (ps:=ps) (k:=k+1) (fun n a=>h n (by simp only[List.map_cons];unfold jan;exact List.mem_append_right _ a));have b:∀n∈x.names,σ' n=σ n:=fun n a=>h n (by simp only[List.map_cons];unfold jan;exact List.mem_append_left _ a);unfold jbw;rw[c];cases hc:x.cells with
  |none=>rfl
  |some cs=>simp only[jec (σ:=σ) (σ':=σ') (cs:=cs) (fun n a=>b n (jdh hc n a))]
theorem jmt{t:TypeId}{len:Nat}{ps:List (Nat×AV)}(h:∀n∈jan (ps.map (·.2)),σ' n=σ n):jbg ty σ' nm t len ps=jbg ty σ nm t len ps:=by
 have a:jcc σ' (jby ps)=jcc σ (jby ps):=by
  cases ps with
  |nil=>rfl
  |cons p ps=>
   obtain⟨i,x⟩:=p;show jcc σ' (x.cells.getD [])=jcc σ (x.cells.getD []);cases hc:x.cells with
   |none=>rfl
   |some cs=>exact jgg fun n b=>h n (by simp only[List.map_cons];unfold jan;exact List.mem_append_left _ (jdh hc n b))
 unfold jbg;simp only[a,jey h]

theorem ji6{x:AV}(h:∀n∈x.names,σ' n=σ n):mpAt σ' x=mpAt σ x:=by
 cases x with
 |own o=>simp only[mpAt,h o (by simp[AV.names])]
 |_=>rfl
theorem jjr{e:Operand->AV}{o:Oper}(G:∀n∈jbt σ e o,σ' n=σ n):spec ty Γ σ' e nm o=spec ty Γ σ e nm o:=by
 have h:∀n∈ja6 e o,σ' n=σ n:=fun n C=>G n (List.mem_append_left _ C);obtain⟨H,L,D,pos,z,A⟩:=o;cases L with
 |load t a=>
  unfold spec;simp only[];simp only[ja6]at h;unfold jbe;cases u:e a with
  |ref ob i=>rw[u]at h;simp only[h ob (by simp[AV.names])]
  |eref ob es k j=>rw[u]at h;simp only[h ob (by simp[AV.names]),jjn (h ob (by simp[AV.names]))]
  |rref ob g k j es i c=>rw[u]at h;simp only[jj1 (h ob (by simp[AV.names]))]
  |_=>rfl
 |store t a x=>
  unfold spec;simp only[];simp only[ja6]at h;unfold jb2;cases u:e a with
  |ref ob i=>rw[u]at h;simp only[h ob (by simp[AV.names])]
  |eref ob es k j=>
   rw[u]at h;cases hc:(e x).cells with
   |none=>cases ty t<;>rfl
   |some cs=>
    cases ty t with
    |none=>rfl
    |some T=>simp only[h ob (List.mem_cons_self ..),jid (σ:=σ) (σ':=σ') (h ob (List.mem_cons_self ..)) (fun n C=>h n (List.mem_cons_of_mem _ (jdh hc n C)))]
  |rref ob g k j es i c=>rw[u]at h;simp only[jio (h ob (by simp[AV.names]))]
  |_=>rfl
 |buildSlice t len M=>
  unfold spec;simp only[];simp only[ja6]at h;exact jmt fun n C=>h n (by rw[List.map_map]at C;exact C)
 |indexAddr t x i=>
  unfold spec;simp only[];simp only[ja6]at h;unfold jcm;cases u:e x with
  |own ob=>rw[u]at h;simp only[h ob (by simp[AV.names])]
  |row ob g k j=>rw[u]at h;simp only[jiq (h ob (by simp[AV.names]))]
  |dat d=>cases jbs ty t<;>cases jbj (e i)<;>cases d<;>rfl
  |_=>rfl
 |call c=>
  obtain⟨callee,args,argTypes⟩:=c;simp only[ja6]at h;cases callee with
  |value f=>
   unfold spec;simp only[];simp only[jd5]at h;cases J:e f with
   |fn g l=>
    have K:jbt σ e ⟨H,.call ⟨.value f,args,argTypes⟩,D,pos,z,A⟩=jan (args.toList.map e++l)++inn σ (jan (args.toList.map e++l)):=by
     have h0:ja6 e ⟨H,.call ⟨.value f,args,argTypes⟩,D,pos,z,A⟩=jan (args.toList.map e++l):=by
      simp only[ja6,jd5,J];rw[jd2]
      conv=>lhs;arg 2;unfold AV.names
     simp only[jbt,xset];rw[h0]
    rw[K]at G;exact jov G
   |_=>rfl
  |invoke r m=>rfl
  |builtin b=>
   simp only[jd5,List.append_nil]at h;cases b
   case len=>
    unfold spec;simp only[];split
    ·rename_i x t G Q;rw[G]at h;simp only[List.map_cons,List.map_nil,jan,List.append_nil]at h;unfold je4;cases u:e x with
     |own ob=>rw[u]at h;simp only[h ob (by simp[AV.names])]
     |row ob g k j=>rw[u]at h;simp only[jk7 (h ob (by simp[AV.names]))]
     |dat d=>
      cases ty t with
      |none=>rfl
      |some T=>
       obtain⟨desc,size,bytes,zero⟩:=T;cases desc
       case slice el=>
        cases d with
        |sc v=>
         cases v
         case slice a n c=>cases a<;>cases n<;>cases c<;>rfl
         all_goals rfl
        |_=>rfl
       all_goals rfl
     |_=>rfl
    ·rfl
   case append=>
    unfold spec;simp only[];split
    ·rename_i x y t V G Q;rw[G]at h;simp only[List.map_cons,List.map_nil,jan,List.append_nil]at h;have I:∀n∈(e x).names,σ' n=σ n:=fun n C=>h n (List.mem_append_left _ C);have O:∀es,slOf σ' es (e y)=slOf σ es (e y):=fun es=>ji0 (fun n C=>h n (List.mem_append_right _ C));unfold jc7;simp only[O];cases jbs ty t with
     |none=>rfl
     |some p=>
      obtain⟨el,E⟩:=p;simp only[];split
      ·cases slOf σ E.size (e y)with
       |none=>
        simp only[];cases R:e y with
        |own S=>exact jg6 (h S (List.mem_append_right _ (by rw[R];simp[AV.names]))) I
        |_=>rfl
       |some q=>
        cases u:e x with
        |own ob=>rw[u]at I;simp only[I ob (by simp[AV.names])]
        |row ob g k j=>rw[u]at I;exact jhf (I ob (by simp[AV.names]))
        |dat d=>
         cases d with
         |sc v=>
          cases v
          case slice a n c=>cases a<;>cases n<;>cases c<;>rfl
          all_goals rfl
         |_=>rfl
        |_=>rfl
      ·rfl
    ·rfl
   all_goals rfl
 |unOp L t x=>cases L<;>rfl
 |makeMap t r=>cases r<;>rfl
 |lookup t x i ok=>
  cases ok with
  |false=>rfl
  |true=>
   unfold spec;simp only[];simp only[ja6]at h;unfold jc4;rw[ji6 h]
 |mapUpdate t x i v=>
  unfold spec;simp only[];simp only[ja6]at h;unfold jc3;rw[ji6 h]
 |slice t x lo hi mx=>
  cases mx with
  |some m=>rfl
  |none=>
   unfold spec;simp only[];simp only[ja6]at h;unfold jed;cases ty t with
   |none=>rfl
   |some T=>
    obtain⟨desc,size,bytes,zero,q⟩:=T;cases desc
    case slice el=>
     cases jj9 (lo.map e)with
     |none=>rfl
     |some l=>
      simp only[];cases jbs ty t with
      |none=>cases B:e x<;>rfl
      |some p=>
       obtain⟨a,E⟩:=p;cases B:e x with
       |own ob=>rw[B]at h;simp only[h ob (by simp[AV.names])]
       |row ob g k j=>rw[B]at h;simp only[jip (h ob (by simp[AV.names]))]
       |dat d=>cases d<;>rfl
       |_=>rfl
    case array n el=>
     cases jj9 (lo.map e)with
     |none=>rfl
     |some l=>
      simp only[];cases lo.map e with
      |some _=>rfl
      |none=>
       cases hi.map e with
       |some _=>rfl
       |none=>
        simp only[];cases B:e x with
        |ref ob i=>
         rw[B]at h;cases i with
         |zero=>unfold jlx;simp only[h ob (by simp[AV.names])]
         |succ i=>rfl
        |_=>rfl
    all_goals (cases jj9 (lo.map e)<;>rfl)
 |makeFunc fn first N=>cases fn<;>rfl
 |convert s d x=>
  simp only[ja6]at h;unfold spec;simp only[];unfold jeu;rw[ji0 h]
 |_=>rfl

theorem jif{e e':Operand->AV}{o:Oper}(h:∀x∈o.op.operands,e' x=e x):spec ty Γ σ e' nm o=spec ty Γ σ e nm o:=by
 obtain⟨v,s,u,pos,k,q⟩:=o;have d:∀ps:Array (Nat×Operand),(∀x∈ps.map (·.2),e' x=e x)->(ps.toList.map fun p=>(p.1,e' p.2))=(ps.toList.map fun p=>(p.1,e p.2)):=fun ps B=>
  List.map_congr_left fun p a=>by
   have:=B p.2 (Array.mem_map.2 ⟨p,Array.mem_toList_iff.1 a,rfl⟩);simp only[this]
 cases s<;>simp only[Op.operands]at h<;>unfold spec<;>simp only[]
 case build t ps=>rw[d ps fun x j=>h x (by simpa using j)]
 case buildSlice t n ps=>rw[d ps fun x j=>h x (by simpa using j)]
 case slice t x lo hi mx=>cases lo<;>cases hi<;>cases mx<;>simp_all
 case unOp s t x=>cases s<;>simp_all
 case makeMap t r=>cases r<;>rfl
 case lookup t x i ok=>cases ok<;>simp_all
 case makeFunc fn first caps=>
  have hc:caps.toList.map e'=caps.toList.map e:=List.map_congr_left fun x j=>h x (Array.mem_append.2 (.inr (Array.mem_toList_iff.1 j)));cases fn<;>simp only[hc]
 case call c=>
  obtain⟨callee,args,argTypes⟩:=c;have a:∀x∈args.toList,e' x=e x:=fun x j=>h x (by unfold Call.operands;exact Array.mem_append.2 (.inr (Array.mem_toList_iff.1 j)));have g:args.toList.map e'=args.toList.map e:=List.map_congr_left a;cases callee with
  |value f=>
   have A:e' f=e f:=h f (by unfold Call.operands;exact Array.mem_append.2 (.inl (by simp)));simp only[g,A]
  |invoke r m=>rfl
  |builtin b=>
   cases b
   case len=>
    simp only[];generalize args.toList=l at a ⊢;generalize argTypes.toList=ts
    match l,ts,a with
    |[],_,_=>rfl
    |[x],[],_=>rfl
    |[x],[t],a=>simp only[a x (by simp)]
    |[x],_::_::_,_=>rfl
    |_::_::_,_,_=>rfl
   case append=>
    simp only[];generalize args.toList=l at a ⊢;generalize argTypes.toList=ts
    match l,ts,a with
    |[],_,_=>rfl
    |[x],_,_=>rfl
    |[x,y],[],_=>rfl
    |[x,y],[t],_=>rfl
    |[x,y],[t,C],a=>simp only[a x (by simp),a y (by simp)]
    |[x,y],_::_::_::_,_=>rfl
    |_::_::_::_,_,_=>rfl
   case max=>
    simp only[];generalize args.toList=l at a ⊢
    match l,a with
    |[],_=>rfl
    |[x],_=>rfl
    |[x,y],a=>simp only[a x (by simp),a y (by simp)]
    |[x,y,z],a=>simp only[a x (by simp),a y (by simp),a z (by simp)]
    |_::_::_::_::_,_=>rfl
   case min=>
    simp only[];generalize args.toList=l at a ⊢
    match l,a with
    |[],_=>rfl
    |[x],_=>rfl
    |[x,y],a=>simp only[a x (by simp),a y (by simp)]
    |_::_::_::_,_=>rfl
   all_goals rfl
 all_goals (first|rfl|(simp_all;done))

theorem jq4{env:List AV}{d:Tmp}{v:AV}{x:Operand}(h:x≠.tmp d):jau (putA env (some d) v) x=jau env x:=by
 cases x with
 |tmp t=>
  have a:d≠t:=fun e=>h (e▸rfl);simp only[jau,putA];rw[List.getD_eq_getElem?_getD,List.getElem?_set_ne a,<-List.getD_eq_getElem?_getD]
 |_=>rfl

theorem jdf{ops:Array Oper}{env:List AV}{a:Option Tmp}{v:AV}{o:Oper}(h:∀d,a=some d->d∉o.looksAt ops):∀x∈o.op.operands,jau (putA env a v) x=jau env x:=by
 intro x b;cases a with
 |none=>rfl
 |some d=>exact jq4 fun e=>h d rfl (List.mem_append_left _ (List.mem_filterMap.2 ⟨.tmp d,by subst e;simpa using b,rfl⟩))

theorem jln{ops:Array Oper}{env:List AV}{a:Option Tmp}{v:AV}{o:Oper}(h:∀d,a=some d->d∉o.looksAt ops):jb1 ty Γ ops σ (putA env a v) nm o=jb1 ty Γ ops σ env nm o:=by
 have hs:=jif (ty:=ty) (Γ:=Γ) (σ:=σ) (nm:=nm) (jdf (env:=env) (v:=v) h);unfold jb1;rw[hs];cases g:o.guard with
 |none=>rfl
 |some f=>
  obtain⟨j,c⟩:=f;simp only[];cases hd:(ops[j]?).bind (·.dst)with
  |none=>rfl
  |some d'=>
   simp only[];cases a with
   |none=>rfl
   |some d=>
    have b:d≠d':=fun e=>h d rfl (by subst e;simp[Oper.looksAt,g,hd]);simp only[putA];rw[List.getD_eq_getElem?_getD,List.getElem?_set_ne b,<-List.getD_eq_getElem?_getD]

theorem jsd{ops:Array Oper}{env:List AV}{o:Oper}(h:∀n∈jbt σ (jau env) o,σ' n=σ n):jb1 ty Γ ops σ' env nm o=jb1 ty Γ ops σ env nm o:=by
 unfold jb1;rw[jjr (ty:=ty) (Γ:=Γ) (nm:=nm) h]

theorem jon{ops:Array Oper}{env:List AV}{e:Option Tmp}{v:AV}{o:Oper}(h:∀d,e=some d->d∉o.looksAt ops):ja6 (jau (putA env e v)) o=ja6 (jau env) o:=by
 have b:=jdf (env:=env) (v:=v) h;obtain⟨n,m,l,pos,g,j⟩:=o;cases m<;>simp only[ja6]<;>simp only[Op.operands]at b
 case load t a=>rw[b a (by simp)]
 case store t a x=>rw[b a (by simp),b x (by simp)]
 case buildSlice t len parts=>rw[List.map_congr_left fun p k=>b p.2 (by simpa using⟨p.1,Array.mem_toList_iff.1 k⟩)]
 case indexAddr t x i=>rw[b x (by simp)]
 case convert s d x=>rw[b x (by simp)]
 case lookup t x i ok=>rw[b x (by simp)]
 case mapUpdate t x i v=>rw[b x (by simp)]
 case slice t x lo hi mx=>rw[b x (by simp)]
 case call c=>
  obtain⟨callee,args,argTypes⟩:=c;simp only[];rw[List.map_congr_left fun x k=>b x (by unfold Call.operands;exact Array.mem_append.2 (.inr (Array.mem_toList_iff.1 k)))];congr 1;cases callee with
  |value f=>
   show(jau (putA env e v) f).names=(jau env f).names;rw[b f (by unfold Call.operands;exact Array.mem_append.2 (.inl (by simp)))]
  |_=>rfl

theorem jk8{ops:Array Oper}{env:List AV}{a:Option Tmp}{v:AV}{o:Oper}(h:∀d,a=some d->d∉o.looksAt ops):jbt σ (jau (putA env a v)) o=jbt σ (jau env) o:=by
 unfold jbt xset;rw[jon h]
theorem jlf{ops:Array Oper}{env:List AV}{a:Option Tmp}{v:AV}{o:Oper}(h:∀d,a=some d->d∉o.looksAt ops):jfs Γ σ (jau (putA env a v)) o=jfs Γ σ (jau env) o:=by
 have g:=jdf (env:=env) (v:=v) h;obtain⟨l,k,i,pos,b,e⟩:=o;cases k
 case call c=>
  obtain⟨callee,args,argTypes⟩:=c;cases callee with
  |value f=>
   cases f with
   |func f=>
    simp only[jfs];simp only[Op.operands]at g;rw[List.map_congr_left fun x j=>g x (by unfold Call.operands;exact Array.mem_append.2 (.inr (Array.mem_toList_iff.1 j)))]
   |_=>rfl
  |_=>rfl
 all_goals rfl
theorem jmj{e:Operand->AV}{o:Oper}(h:∀n∈ja6 e o,σ' n=σ n):jfs Γ σ' e o=jfs Γ σ e o:=by
 obtain⟨p,l,i,pos,b,d⟩:=o;cases l
 case call c=>
  obtain⟨callee,args,argTypes⟩:=c;cases callee with
  |value f=>
   cases f with
   |func f=>
    have a:∀n∈jan (args.toList.map e),σ' n=σ n:=fun n a=>h n (by simp only[ja6];exact List.mem_append_left _ a);have j:∀kp ns,joq σ' kp ns (jan (args.toList.map e))=joq σ kp ns (jan (args.toList.map e)):=fun kp ns=>by
     unfold joq;refine List.filter_congr fun n _=>?_;cases hb:(jan (args.toList.map e)).any fun m=>Nat.beq n m with
     |false=>rfl
     |true=>
      obtain⟨m,k,g⟩:=List.any_eq_true.1 hb;have:=Nat.eq_of_beq_eq_true g;subst this;simp only[cond_true,jrd,a n k]
    simp only[jfs,jc6 _ _ a,j]
   |_=>rfl
  |_=>rfl
 all_goals rfl
theorem jlg{ops:Array Oper}{env:List AV}{a:Option Tmp}{v:AV}{o:Oper}(h:∀d,a=some d->d∉o.looksAt ops):jiu Γ σ (jau (putA env a v)) o=jiu Γ σ (jau env) o:=by
 have g:=jdf (env:=env) (v:=v) h;obtain⟨l,k,i,pos,b,e⟩:=o;cases k
 case call c=>
  obtain⟨callee,args,argTypes⟩:=c;cases callee with
  |value f=>
   cases f with
   |func f=>
    simp only[jiu];simp only[Op.operands]at g;rw[List.map_congr_left fun x j=>g x (by unfold Call.operands;exact Array.mem_append.2 (.inr (Array.mem_toList_iff.1 j)))]
   |_=>rfl
  |_=>rfl
 all_goals rfl
theorem jmk{e:Operand->AV}{o:Oper}(h:∀n∈ja6 e o,σ' n=σ n):jiu Γ σ' e o=jiu Γ σ e o:=by
 obtain⟨j,i,g,pos,a,b⟩:=o;cases i
 case call c=>
  obtain⟨callee,args,argTypes⟩:=c;cases callee with
  |value f=>
   cases f with
   |func f=>
    have d:∀n∈jan (args.toList.map e),σ' n=σ n:=fun n d=>h n (by simp only[ja6];exact List.mem_append_left _ d);simp only[jiu,jc6 _ _ d]
   |_=>rfl
  |_=>rfl
 all_goals rfl
theorem jtp{e:Operand->AV}{o:Oper}{n:Nat}(h:n∈jfs Γ σ e o):n∈ja6 e o/\ jrd σ n=true:=by
 unfold jfs at h;split at h
 ·rename_i f args at_ heq;split at h
  ·split at h
   ·unfold joq at h;obtain⟨_,a⟩:=List.mem_filter.1 h;cases hb:(jan (args.toList.map e)).any fun m=>Nat.beq n m with
    |false=>rw[hb]at a;cases a
    |true=>
     rw[hb]at a;obtain⟨m,c,b⟩:=List.any_eq_true.1 hb;have:=Nat.eq_of_beq_eq_true b;subst this;refine⟨?_,a⟩;unfold ja6;rw[heq];exact List.mem_append_left _ c
   ·cases h
  ·cases h
 ·cases h
theorem jmc{e:Operand->AV}{o:Oper}(h:∀n∈ja6 e o,σ' n=σ n):jbt σ' e o=jbt σ e o:=by
 unfold jbt xset;split
 ·rw[jll h]
 ·rfl

end
end Go.Ab
