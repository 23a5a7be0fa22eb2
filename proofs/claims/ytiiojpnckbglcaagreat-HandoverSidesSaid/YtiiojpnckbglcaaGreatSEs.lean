import Derived.Test.YtiiojpnckbglcaaGreatMZOs
set_option linter.unusedVariables false
namespace Go.Proofs.YtiiojpnckbglcaaGreat
open Go.RowKit
attribute [local go_sem ↓] Go.wp_at_zero Go.wp_at_succ
section
variable {w w1:World} {g:Nat} {s:TS} {W R:Nat->Prop} {qA:Option Addr} {qc:Nat} {lq:List WE} {pA:Option Addr} {pc:Nat} {lp:List PE} {ub cb:Nat}
end
def PV.again (p:PV):PV:={ p with rep:=true }
end Go.Proofs.YtiiojpnckbglcaaGreat
