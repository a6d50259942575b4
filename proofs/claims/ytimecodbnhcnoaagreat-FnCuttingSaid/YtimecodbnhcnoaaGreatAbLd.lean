/- My own layer: lending a row, in few words; elements that lead into their own rows alone. -/
import Derived.Test.YtimecodbnhcnoaaGreatAbC
import Derived.Test.YtimecodbnhcnoaaGreatAbLend
namespace Go.Ab
set_option linter.unusedVariables false
set_option linter.unusedSimpArgs false
section
variable{P:Program}{J:Inv}{ty:TypeId->Option TyE}{cx:Cx}{k n:Nat}{l:List (FO P J)}{x:X}{Q:Exit->St->Prop}
end
def jgl:List (Option TypeId)->List D->Prop
 |_,[]=>True
 |m,c::cs=>(match jao m 0 with|none=>jf3 c|some _=>∀es rows,c=.sl es rows->∀r∈rows,jf3 r)/\ jgl m.tail cs
theorem jlp:∀{cs:List D}{m:List (Option TypeId)}{j:Nat}{c:D},jgl m cs->cs[j]? =some c->match jao m j with|none=>jf3 c|some _=>∀es rows,c=.sl es rows->∀r∈rows,jf3 r
 |[],m,j,c,_,a=>by simp at a
 |c0::cs,m,0,c,h,a=>by
  simp only[List.getElem?_cons_zero,Option.some.injEq]at a;subst a;exact h.1
 |c0::cs,m,j+1,c,h,a=>by
  have:=jlp (m:=m.tail) (j:=j) h.2 (by simpa using a);have e:jao m.tail j=jao m (j+1):=by unfold jao;cases m<;>simp
  rw[e]at this;exact this
theorem jqw{m:List (Option TypeId)}{cs:List D}(h:jgl m cs):jsr m (.agg cs):=fun j c a=>jlp h a
theorem fT_n{m:List (Option TypeId)}:jgl m []:=trivial
theorem fT_d{m:List (Option TypeId)}{c:D}{cs:List D}(h:jf3 c)(t:jgl m cs):jgl (none::m) (c::cs):=⟨h,t⟩
theorem fT_s{α:Type}[Enc α][FlatEnc α]{e:TypeId}{m:List (Option TypeId)}{cs:List D}{es:Nat}{l:List α}(t:jgl m cs):jgl (some e::m) (.sl es (l.map Enc.e)::cs):=by
 refine⟨fun es' rows h r a=>?_,t⟩;cases h;obtain⟨y,_,rfl⟩:=List.mem_map.1 a;exact FlatEnc.flat y
theorem jsf{α:Type}[Enc α]{e:TypeId}{es g:Nat}{m:List (Option TypeId)}{l:List α}{hole:Option (Nat×Nat)}(h:∀x:α,jsr m (Enc.e x)):jcn (.tab e es m (l.map Enc.e) g hole):=by
 intro d hd;obtain⟨y,_,rfl⟩:=List.mem_map.1 hd;exact h y
end Go.Ab
