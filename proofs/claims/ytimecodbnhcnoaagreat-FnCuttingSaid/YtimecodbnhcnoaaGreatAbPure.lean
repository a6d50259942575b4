/- My own layer, nineteenth part: contracts of plain functions (data in, data out), and lemmas that the walks use. -/
import Derived.Test.YtimecodbnhcnoaaGreatAbDraw4
namespace Go.Ab
set_option linter.unusedVariables false
set_option linter.unusedSimpArgs false

def jka(f:Nat):List (Nat×FnSpec)->Option FnSpec
 |[]=>none
 |(k,x)::r=>bif Nat.beq f k then some x else jka f r
theorem jso{P:Program}{J:Inv}:∀p∈([]:List (Nat×FnSpec)),FnOK P J p.1 p.2:=by simp
theorem jrm{P:Program}{J:Inv}{k:Nat}{x:FnSpec}{r:List (Nat×FnSpec)}(h:FnOK P J k x)(a:∀p∈r,FnOK P J p.1 p.2):∀p∈(k,x)::r,FnOK P J p.1 p.2:=by
 intro p hp;rcases List.mem_cons.1 hp with rfl|hp
 ·exact h
 ·exact a p hp
theorem jnh{P:Program}{J:Inv}:∀{l:List (Nat×FnSpec)},(∀p∈l,FnOK P J p.1 p.2)->∀f x,jka f l=some x->FnOK P J f x
 |[],_,f,x,h=>by simp[jka]at h
 |(k,y)::r,a,f,x,h=>by
  unfold jka at h;cases hb:Nat.beq f k with
  |true=>
   rw[hb]at h;simp only[cond_true,Option.some.injEq]at h;subst h;have:=Nat.eq_of_beq_eq_true hb;subst this;exact a (f,y) (List.mem_cons_self ..)
  |false=>
   rw[hb]at h;exact jnh (fun p b=>a p (List.mem_cons_of_mem _ b)) f x h

def jkr(S:FnSpec):Prop:=∀ds obs,S.pre ds obs->∃r new obs',S.post ds obs r new obs'
theorem jsn:∀p∈([]:List (Nat×FnSpec)),jkr p.2:=by simp
theorem jrl{k:Nat}{x:FnSpec}{r:List (Nat×FnSpec)}(h:jkr x)(a:∀p∈r,jkr p.2):∀p∈(k,x)::r,jkr p.2:=by
 intro p hp;rcases List.mem_cons.1 hp with rfl|hp
 ·exact h
 ·exact a p hp
theorem ji8:∀{l:List (Nat×FnSpec)},(∀p∈l,jkr p.2)->Live (fun f=>jka f l)
 |[],_=>by intro f x h;simp[jka]at h
 |(k,y)::r,a=>by
  intro f x h
  change jka f ((k,y)::r)=some x at h
  unfold jka at h;cases hb:Nat.beq f k with
  |true=>
   rw[hb]at h;simp only[cond_true,Option.some.injEq]at h;subst h;exact a (k,y) (List.mem_cons_self ..)
  |false=>
   rw[hb]at h;exact ji8 (fun p b=>a p (List.mem_cons_of_mem _ b)) f x h

section
variable{P:Program}{cx:Cx}{κ:Kap}{F:Nat->Prop}{w:World}{U:Nat->Prop}{nm:Nat}{σ:Objs}{ty:TypeId->Option TyE}{Γ:Nat->Option FnSpec}

theorem jb6{L:Nat}{ren:List (Nat×Nat)}{nils:List Nat}:∀x:AV,VLe L σ ren nils x .unk
 | .dat _| .own _| .ref _ _| .eref _ _ _ _| .row _ _ _ _| .rref _ _ _ _ _ _ _| .vw _ _ _ _ _ _ _| .fp _| .aggv _| .tup _| .fn _ _| .und=>by unfold VLe;exact .inl rfl
 | .unk=>by unfold VLe;rfl
theorem jgr{L:Nat}{ren:List (Nat×Nat)}{nils:List Nat}:VLes L σ ren nils [] []:=by unfold VLes;rfl
theorem jfg{L:Nat}{ren:List (Nat×Nat)}{nils:List Nat}{x y:AV}{l l':List AV}(h:VLe L σ ren nils x y)(a:VLes L σ ren nils l l'):VLes L σ ren nils (x::l) (y::l'):=by unfold VLes;exact⟨y,l',rfl,h,a⟩
theorem js6{L:Nat}{ren:List (Nat×Nat)}{nils:List Nat}{o o':Nat}(h:(o',o)∈ren):VLe L σ ren nils (.own o) (.own o'):=by unfold VLe;exact .inr (.inl ⟨o',rfl,h⟩)
theorem jo2{L:Nat}{ren:List (Nat×Nat)}{nils:List Nat}{o o' i:Nat}(h:(o',o)∈ren):VLe L σ ren nils (.ref o i) (.ref o' i):=by unfold VLe;exact .inr ⟨o',rfl,h⟩
theorem js8{L:Nat}{ren:List (Nat×Nat)}{nils:List Nat}{o:Nat}{es:Nat}{l l':List D}(h:slO σ o=some (es,l))(a:o∉ren.map Prod.snd)(b:L<=o)(c:l=l'):VLe L σ ren nils (.own o) (.dat (.sl es l')):=by subst c;unfold VLe;exact .inr (.inr ⟨es,l,h,a,b,rfl⟩)
theorem js7{L:Nat}{ren:List (Nat×Nat)}{nils:List Nat}{o:Nat}(h:o∈nils):VLe L σ ren nils (.dat (.sc (.slice none 0 0))) (.own o):=by unfold VLe;exact .inr (.inr ⟨rfl,o,rfl,h⟩)
theorem js5{L:Nat}{ren:List (Nat×Nat)}{nils:List Nat}:VLe L σ ren nils .und .und:=by unfold VLe;exact .inr rfl

theorem jkj:∀d:D,DLe d d
 | .sc v=>by unfold DLe;exact .inl rfl
 | .sl es l=>by unfold DLe;rfl
 | .agg l=>by unfold DLe;exact⟨l,rfl,dles_refl l⟩
 where dles_refl:∀l:List D,DLes l l
 |[]=>by unfold DLes;rfl
 |d::l=>by unfold DLes;exact⟨d,l,rfl,jkj d,dles_refl l⟩

theorem jji{L:Nat}{ren:List (Nat×Nat)}{nils:List Nat}{d d':D}(h:d=d'):VLe L σ ren nils (.dat d) (.dat d'):=by subst h;unfold VLe;exact .inr (.inl ⟨d,rfl,jkj d⟩)
theorem jrw{L:Nat}{ren:List (Nat×Nat)}{nils:List Nat}{es:Nat}:VLe L σ ren nils (.dat (.sc (.slice none 0 0))) (.dat (.sl es [])):=by unfold VLe;exact .inr (.inl ⟨_,rfl,by unfold DLe;exact .inr ⟨rfl,es,rfl⟩⟩)
theorem jmq{k:Nat}{ns:List Nat}{d d':D}(h:d=d'):Exp k σ ns (.dat d) (.dat d'):=by subst h;unfold Exp;exact⟨d,rfl,jkj d⟩
theorem jt0{k:Nat}{ns:List Nat}{es:Nat}{l:List D}(h:l=[]):Exp k σ ns (.dat (.sc (.slice none 0 0))) (.dat (.sl es l)):=by subst h;unfold Exp;exact⟨_,rfl,by unfold DLe;exact .inr ⟨rfl,es,rfl⟩⟩
theorem jtz{k o:Nat}{ns:List Nat}{es:Nat}{l l':List D}(h:slO σ o=some (es,l))(c:o∉ns)(b:k<=o)(a:l=l'):Exp k σ ns (.own o) (.dat (.sl es l')):=by subst a;unfold Exp;exact .inl ⟨es,l,h,c,b,rfl⟩
theorem jty{k:Nat}{ns:List Nat}{l l':List AV}(h:ExpL k σ ns l l'):Exp k σ ns (.tup l) (.tup l'):=by unfold Exp;exact⟨l',rfl,h⟩
theorem jg1{k:Nat}{ns:List Nat}:ExpL k σ ns [] []:=by unfold ExpL;rfl
theorem jfw{k:Nat}{ns:List Nat}{x y:AV}{l l':List AV}(h:Exp k σ ns x y)(a:ExpL k σ ns l l'):ExpL k σ ns (x::l) (y::l'):=by unfold ExpL;exact⟨y,l',rfl,h,a⟩
theorem jt1{k:Nat}{ns:List Nat}{l:List AV}{ds:List D}(h:ExpD k σ ns l ds):Exp k σ ns (.aggv l) (.dat (.agg ds)):=by unfold Exp;exact .inl ⟨ds,rfl,h⟩
theorem jsi{k:Nat}{ns:List Nat}{l l':List AV}(h:ExpL k σ ns l l'):Exp k σ ns (.aggv l) (.aggv l'):=by unfold Exp;exact .inr ⟨l',rfl,h⟩
end
end Go.Ab
