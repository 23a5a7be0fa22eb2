import Derived.Test.YtiiojpnckbglcaaGreatUs
import Derived.StillTailTactics
set_option linter.unusedVariables false
set_option linter.unusedSimpArgs false
namespace Go.Proofs.YtiiojpnckbglcaaGreat
open Go.RowKit Go.Shelf
attribute [local go_sem] Oper.semAt_some
def over (bt:Nat->Bool) (n:Nat) (pre:List Bool) (j:Nat):Bool:=if j < n then bt j else pre.getD (j-n) false
end Go.Proofs.YtiiojpnckbglcaaGreat
namespace Go.Proofs.YtiiojpnckbglcaaGreat
open Go.RowKit
theorem kL {a w:World} (h:Below a.heap.size a w) (row:Option Nat):a.grownBy w row:=⟨h.os,h.tape,h.output,h.size,fun i hi _=>h.block i hi⟩
end Go.Proofs.YtiiojpnckbglcaaGreat
