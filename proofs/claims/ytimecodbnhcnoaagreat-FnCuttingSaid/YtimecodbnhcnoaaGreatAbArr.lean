/- My own layer: an array taken as a whole (a range over a copy of a great array): the load of the whole array, a part of it. -/
import Derived.Test.YtimecodbnhcnoaaGreatAbC
namespace Go.Ab
set_option linter.unusedVariables false
set_option linter.unusedSimpArgs false
section
variable{P:Program}{cx:Cx}{ty:TypeId->Option TyE}{Γ:Nat->Option FnSpec}{Q:Exit->St->Prop}

theorem ju5(u:∀t x,ty t=some x->TyOK P t x)(U:∀f S,Γ f=some S->FnOK P cx.J f S){k:Nat}(N:cx.L=k){id n:Nat}{o:Oper}{r:List Oper}{x:X}(I:o.guard=none){av:AV}
  (c:∀(κ:Kap)(F:Nat->Prop)(a:Act)(w:World),RelU cx κ F (· <x.nx) (envX n x.A) (obo x.L) a w->Out P o a.eval w (SR cx κ F w (· <x.nx) x.nx (obo x.L) (.det True [] av [])))
  (hs:List (Nat×H)) {ps:List Prop} (R:AllP ps) (h:rP (exR (some k) chk0 ty Γ (o::r) n r 1 hs ⟨putX x.A o.dst av,x.L,x.nx+16⟩)=some ps)
  (z:Q .normal ((rX (exR (some k) chk0 ty Γ (o::r) n r 1 hs ⟨putX x.A o.dst av,x.L,x.nx+16⟩)).st n)):Ok P cx (.region id (o::r).toArray false) Q (x.st n):=by
 cases s:exR (some k) chk0 ty Γ (o::r) n r 1 hs ⟨putX x.A o.dst av,x.L,x.nx+16⟩with
 |none=>rw[s]at h;cases h
 |some W=>
  obtain⟨V,x'⟩:=W;rw[s]at h z;cases h;intro κ F a w B;refine wp_region_lit (wpList_step fun K hK=>?_);rw[if_pos (by simp[Region.wanted,I])];have i:RelU cx κ F (· <x.nx) (envX n x.A) (obo x.L) a w:=⟨B.env,B.orel⟩;refine(c κ F a w i).wp ?_;rintro v w' ⟨q,δ,κ',F',⟨D,E⟩,g,T,O⟩;subst D;subst E;have y:(Un (· <x.nx) x.nx)=(· <x.nx+16):=by funext m;simp only[Un,eq_iff_iff];omega
  have j:Rel cx κ' F' ((⟨putX x.A o.dst q,x.L,x.nx+16⟩:X).st n) (a.put o.dst v) w':=by
   have e:=i.env.put (d:=o.dst) g T O;have p:=g.orel;rw[y]at e p;rw[jd1]at e;exact⟨e,p⟩
  refine hK _ _ (jfx u U N r 1 hs _ x' _ κ' F' _ w' s R j ?_);intro Y C Z w2 e p G;exact⟨Y,C,x'.st n,z,fun b hb=>e b (g.fr b hb),g.wx.trans p (fun b hb=>hb.imp (g.fr b) fun M=>M),G⟩

abbrev flatE{α:Type}[Enc α](l:List α):List D:=(l.map Enc.e).flatMap D.cells
theorem jnp{α:Type}[Enc α](hc:∀x:α,(Enc.e x).cells.length=Enc.sz α):∀(l:List α)(i:Nat)(x:α),l[i]? =some x->((flatE l).drop (i*Enc.sz α)).take (Enc.sz α)=(Enc.e x).cells
 |[],i,x,h=>by simp at h
 |y::l,0,x,h=>by
  simp at h;subst h;simp only[flatE,List.map_cons,List.flatMap_cons,Nat.zero_mul,List.drop_zero];exact List.take_left' (hc y)
 |y::l,i+1,x,h=>by
  have a:=jnp hc l i x (by simpa using h);have e:(i+1)*Enc.sz α=(Enc.e y).cells.length+i*Enc.sz α:=by rw[hc,Nat.add_mul];omega
  simp only[flatE,List.map_cons,List.flatMap_cons];rw[e,<-List.drop_drop,List.drop_left];exact a

variable{J:Inv}{k n:Nat}{l:List (FO P J)}{x:X}
theorem ixA1{α:Type}[Enc α]{ls:List α}{e:α}{id:Nat}{o:Oper}{r:List Oper}{t el:TypeId}{a i:Operand}{T E:TyE}{len:Nat}{kk:IntKind}{m:Int}(G:GG P ty cx k l)(d:0<=m/\ m<(len:Int))(z:idx ls m=some e)(p:HP)
  (U:Q .normal ((rX (exR (some k) chk0 ty (GF l) (o::r) n r 1 p.hs ⟨putX x.A o.dst (.dat (Enc.e e)),x.L,x.nx+16⟩)).st n))
  (hc:∀x:α,(Enc.e x).cells=[Enc.e x]/\ 1=Enc.sz α)
  (R:o.guard=none:=by rfl) (S:o.op=.index t a i:=by rfl) (N:ty t=some T:=by rfl) (s:T.desc=.array len el:=by rfl) (hE:ty el=some E:=by rfl) (hA:E.isAgg=false:=by rfl) (V:E.size=Enc.sz α:=by rfl) (O:evX n x.A a=.dat (.agg (flatE ls)):=by kernel_rfl) (hi:evX n x.A i=.dat (.sc (.int kk m)):=by kernel_rfl)
  (h:rP (exR (some k) chk0 ty (GF l) (o::r) n r 1 p.hs ⟨putX x.A o.dst (.dat (Enc.e e)),x.L,x.nx+16⟩)=some p.ps:=by kernel_rfl):Ok P cx (.region id (o::r).toArray false) Q (x.st n):=by
 refine ju5 G.t.ty G.ok G.hL R (fun κ F H w B=>?_) p.hs p.ok h U;have j:RV κ F w (jau (envX n x.A) a) (H.eval a):=jki B.env;have q:RV κ F w (jau (envX n x.A) i) (H.eval i):=jki B.env;rw[<-jlw]at j q;rw[O]at j;rw[hi]at q;unfold RV RD at j q;obtain⟨cs,K,M⟩:=j;have g:=G.t.ty el E hE;have I:=(G.t.ty t T N).1;rw[s]at I;have W:ls[m.toNat]? =some e:=by
  unfold idx at z;rw[if_pos d.1]at z;exact z
 have b:=jnp (fun x=>by rw[(hc x).1];exact(hc x).2) ls m.toNat e W;have f:Enc.sz α=1:=(hc e).2.symm;rw[f,Nat.mul_one,(hc e).1]at b;have y:(flatE ls)[m.toNat]? =some (Enc.e e):=by
  have:(((flatE ls).drop m.toNat).take 1)[0]? =some (Enc.e e):=by rw[b];rfl
  rw[List.getElem?_take_of_lt (by omega),List.getElem?_drop]at this;simpa using this
 obtain⟨u,C,_,D⟩:=M.at m.toNat _ y;refine jam (v:=u) (w':=w) ?_ (jat B.orel ?_ (jez _))
 ·unfold execOp;simp only[S];refine jbk _ ?_;have c:cs.toArray[m.toNat*1]? =some u:=by rw[Nat.mul_one,List.getElem?_toArray];exact C
  simp only[Instr.index,q.1,asIntOf,Sem.run_bind,run_underlying I,Result.andThen_ok,K,Sem.run_pure,part,d,and_self,jbm g,hA,if_true,if_false,Bool.false_eq_true,jar g,V,f,c]
 ·unfold RV;exact D
theorem ixS1{α:Type}[Enc α]{ls:List α}{e:α}{id:Nat}{o:Oper}{r:List Oper}{c:Code}{t el:TypeId}{a i:Operand}{T E:TyE}{len:Nat}{kk:IntKind}{m:Int}(G:GG P ty cx k l)(d:0<=m/\ m<(len:Int))(j:idx ls m=some e)(p:HP)
  (u:Ok P cx c Q ((rX (exR (some k) chk0 ty (GF l) (o::r) n r 1 p.hs ⟨putX x.A o.dst (.dat (Enc.e e)),x.L,x.nx+16⟩)).st n))
  (hc:∀x:α,(Enc.e x).cells=[Enc.e x]/\ 1=Enc.sz α)
  (q:o.guard=none:=by rfl) (s:o.op=.index t a i:=by rfl) (f:ty t=some T:=by rfl) (b:T.desc=.array len el:=by rfl) (hE:ty el=some E:=by rfl) (hA:E.isAgg=false:=by rfl) (v:E.size=Enc.sz α:=by rfl) (g:evX n x.A a=.dat (.agg (flatE ls)):=by kernel_rfl) (hi:evX n x.A i=.dat (.sc (.int kk m)):=by kernel_rfl)
  (h:rP (exR (some k) chk0 ty (GF l) (o::r) n r 1 p.hs ⟨putX x.A o.dst (.dat (Enc.e e)),x.L,x.nx+16⟩)=some p.ps:=by kernel_rfl):Ok P cx (.seq (.region id (o::r).toArray false) c) Q (x.st n):=
 jab (ixA1 G d j p u hc q s f b hE hA v g hi h)
end
end Go.Ab
