import Derived.Test.YtiiojpnckbglcaaGreatMCFs
import Derived.Test.YtiiojpnckbglcaaGreatMRLs
import Derived.Test.YtiiojpnckbglcaaGreatMZAs
import Derived.Deep.MidRow
set_option linter.unusedVariables false
set_option linter.unusedSimpArgs false
namespace Go.Proofs.YtiiojpnckbglcaaGreat
open Go.RowKit
attribute [local go_sem ↓] Go.wp_at_zero Go.wp_at_succ
def pv (cf:aZ) (p:Option Addr×Nat):Value:=.slice p.1 (cy cf 1) p.2
end Go.Proofs.YtiiojpnckbglcaaGreat
