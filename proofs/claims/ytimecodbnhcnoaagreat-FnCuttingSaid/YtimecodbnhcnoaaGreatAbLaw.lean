/- My own layer: a law over a slice of bytes: its contract by a model that says true is the walk that the shell of a proof asks for. -/
import Derived.Test.YtimecodbnhcnoaaGreatAbEx5
import Derived.Below
import Derived.DataReads
import GoSem.Claim
namespace Go.Ab
set_option linter.unusedVariables false
set_option linter.unusedSimpArgs false

def jfa(a:List Int):List UInt8:=a.map fun z=>UInt8.ofNat z.toNat

theorem jrc{z:Int}(h:(Lit.int .u8 z).wf=true):((UInt8.ofNat z.toNat).toNat:Int)=z:=by
 unfold Lit.wf at h;simp only[Bool.and_eq_true,decide_eq_true_eq]at h;have a:IntKind.u8.min=0:=by decide
 have b:IntKind.u8.max=255:=by decide
 rw[a,b]at h;rw[UInt8.toNat_ofNat'];omega

theorem jna{F:Nat->Prop}{w:World}:∀(a:List Int),(∀z∈a,(Lit.int .u8 z).wf=true)->RE F w 1 ((jfa a).map Enc.e) (a.map fun z=>Value.int .u8 z)
 |[],_=>by unfold jfa;simp only[List.map_nil];unfold RE;rfl
 |z::a,h=>by
  have d:=jrc (h z (List.mem_cons_self ..));have b:=jna (F:=F) (w:=w) a (fun y c=>h y (List.mem_cons_of_mem _ c));unfold jfa at b ⊢;simp only[List.map_cons];refine RE.mk (u:=[Value.int .u8 z]) rfl ?_ b;show RC F w [D.sc (.int .u8 ((UInt8.ofNat z.toNat).toNat:Int))] [Value.int .u8 z];rw[d];unfold RC;refine⟨_,_,rfl,rfl,by unfold RD;exact⟨rfl,rfl⟩,by unfold RC;rfl⟩

theorem jqk{P:Program}{J:Inv}{f:Nat}{m:List UInt8->Option Bool}{new:Bool->List Obj'}{ob:List UInt8->Bool->List Obj'}
  (h:FnOK P J f (modS [.rd] (fun x:List UInt8=>[Enc.e x]) (fun _=>[]) m (fun y=>.dat (Enc.e y)) new ob)) (V:∀c,m c=some true)
  (a:Option Addr) (len d:Nat) (l:List Int) (w:World) (hJ:J.ok w) (hZ:∀b,J.Z b->b<w.heap.size)
  (D:(a=none/\ len=0/\ d=0/\ l=[]) \/∃x,a=some x/\ len<=d/\ d<=maxLen/\ l.length=d/\ (∀i,i<l.length->w.cell? (x.add i)=some (.int .u8 (l.getD i 0)))/\ ∀n∈l,(Lit.int .u8 n).wf=true):
  Calls P f #[.slice a len d] w fun e w'=>e=.returned (.bool true)/\ Go.RowKit.Below w.heap.size w w':=by
 have q:∀(H:Nat->Prop)(c:List UInt8),RD H w (Enc.e c) (.slice a len d)->(∀b,H b->b<w.heap.size)->Calls P f #[.slice a len d] w fun e w'=>e=.returned (.bool true)/\ Go.RowKit.Below w.heap.size w w':=by
  intro H c C I;obtain⟨F,s⟩:∃F:Nat->Prop,F=fun b=>H b \/J.Z b:=⟨_,rfl⟩;have Q:RD F w (Enc.e c) (.slice a len d):=RD.mono (fun b hb=>by rw[s];exact .inl hb) (fun _ _=>rfl) C;have hF:∀b,F b->b<w.heap.size:=fun b hb=>by
   rw[s]at hb;rcases hb with hb|hb
   ·exact I b hb
   ·exact hZ b hb
  have K:JOK J F w:=⟨hJ,fun b hb=>by rw[s];exact .inr hb⟩;refine(h.2 [.slice a len d] w F [Enc.e c] [] (fun _=>kv jmh) ⟨c,true,rfl,rfl,V c⟩ ?_ hF K ?_).mono ?_
  ·show RVs _ F w [.dat (Enc.e c)] [.slice a len d];unfold RVs;refine⟨_,_,rfl,by unfold RV;exact Q,?_⟩;unfold RVs;rfl
  ·exact⟨fun j x p=>by simp at p,fun j x p=>by simp at p,fun i x j y hi=>by simp at hi⟩
  ·rintro e w' ⟨v,rfl,r,Y,obs',κ',κl,F',ret⟩;obtain⟨x,y,h1,h2,S,rfl,_,_⟩:=ret.post;rw[V x]at S;cases S;have E:=ret.rv;unfold RV at E;have W:RD F' w' (.sc (.bool true)) v:=E;unfold RD at W;refine⟨by rw[W.1],?_⟩;obtain⟨w1,w2,w3,w4,w5⟩:=ret.wx;exact⟨w1,w2,w3,w4,fun k hk=>w5 k ⟨hk,by rintro⟨j,x,p,_⟩;simp at p⟩⟩
 rcases D with⟨rfl,rfl,rfl,rfl⟩|⟨x,rfl,T,U,X,hc,R⟩
 ·refine q (fun _=>False) [] ?_ (fun _ hb=>hb.elim);show RD _ w (.sl 1 []) _;unfold RD;exact⟨none,0,rfl,Nat.le_refl _,by unfold maxLen;omega,fun _=>rfl,.inl rfl⟩
 ·rcases Nat.eq_zero_or_pos len with N|hlp
  ·subst N;refine q (fun _=>False) [] ?_ (fun _ hb=>hb.elim);show RD _ w (.sl 1 []) _;unfold RD;exact⟨some x,d,rfl,T,U,fun h=>by (cases h),.inl rfl⟩
  ·obtain⟨b,B,G⟩:=x;have h0:=hc 0 (by omega);have A:G=none:=by simpa[Addr.add]using World.cell?_spot h0
   subst A;refine q (fun k=>k=b) (jfa (l.take len)) ?_ ?_
   ·show RD _ w (.sl 1 ((jfa (l.take len)).map Enc.e)) _;have g:((jfa (l.take len)).map (Enc.e (α:=UInt8))).length=len:=by
     unfold jfa;rw[List.length_map,List.length_map,List.length_take];omega
    unfold RD;refine⟨some ⟨b,B,none⟩,d,by rw[g],by rw[g];exact T,U,fun h=>by (cases h),.inr ⟨b,B,(l.take len).map fun z=>Value.int .u8 z,rfl,rfl,?_,?_,jna _ fun z X=>R z (List.mem_of_mem_take X)⟩⟩
    ·rw[g,List.length_map,List.length_take];omega
    ·intro j u p;rw[List.getElem?_map]at p;obtain⟨z,o,rfl⟩:=Option.map_eq_some_iff.1 p;have L:j<len:=by
      have:=(List.getElem?_eq_some_iff.1 o).1;rw[List.length_take]at this;omega
     rw[List.getElem?_take_of_lt L]at o;have M:j<l.length:=(List.getElem?_eq_some_iff.1 o).1;have:=hc j M;rw[List.getD_eq_getElem?_getD,o]at this;rw[Addr.add_lit]at this;exact this
   ·rintro k rfl;have t:w.cell? ⟨k,B,none⟩=some (.int .u8 (l.getD 0 0)):=by simpa[Addr.add]using h0
    rcases Nat.lt_or_ge k w.heap.size with O|hge
    ·exact O
    ·exfalso;have:w.heap[k]? =none:=Array.getElem?_eq_none hge;simp[World.cell?,this]at t
theorem law_walk{P:Program}{f:Nat}{m:List UInt8->Option Bool}{new:Bool->List Obj'}{ob:List UInt8->Bool->List Obj'}
  (h:FnOK P .none f (modS [.rd] (fun x:List UInt8=>[Enc.e x]) (fun _=>[]) m (fun y=>.dat (Enc.e y)) new ob)) (j:∀d,m d=some true)
  (a:Option Addr) (len b:Nat) (c:List Int) (w:World)
  (g:(a=none/\ len=0/\ b=0/\ c=[]) \/∃x,a=some x/\ len<=b/\ b<=maxLen/\ c.length=b/\ (∀i,i<c.length->w.cell? (x.add i)=some (.int .u8 (c.getD i 0)))/\ ∀n∈c,(Lit.int .u8 n).wf=true):
  Calls P f #[.slice a len b] w fun e w'=>e=.returned (.bool true)/\ Go.RowKit.Below w.heap.size w w':=
 jqk h j a len b c w trivial (fun _ hb=>hb.elim) g
end Go.Ab
