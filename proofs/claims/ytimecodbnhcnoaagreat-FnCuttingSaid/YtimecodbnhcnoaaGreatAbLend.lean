/- My own layer: a row of a table is lent to a call: it is taken out ahead of it and put back behind it. -/
import Derived.Test.YtimecodbnhcnoaaGreatAbEx3b
namespace Go.Ab
set_option linter.unusedVariables false
set_option linter.unusedSimpArgs false
section
variable{P:Program}{cx:Cx}{κ:Kap}{F:Nat->Prop}{w:World}{U:Nat->Prop}{nm:Nat}{σ:Objs}{ty:TypeId->Option TyE}{Γ:Nat->Option FnSpec}

end

section
variable{P:Program}{cx:Cx}{ty:TypeId->Option TyE}{Γ:Nat->Option FnSpec}{Q:Exit->Act->World->Prop}
variable{Q:Exit->St->Prop}
end
end Go.Ab
