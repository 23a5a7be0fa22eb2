import Derived.Test.YtiiojpnckbglcaaGreatMEVs
import Derived.Deep.RegionWith
import Derived.Deep.DeepCutAuto
import Derived.Deep.CutRange
import Derived.Deep.CutBlock
set_option linter.unusedVariables false
set_option linter.unusedSimpArgs false
namespace Go.Proofs.YtiiojpnckbglcaaGreat
open Go.RowKit
theorem sL {w w':World} {base e n:Nat} {v:Value} {xs:List Value} (h:w.ownsRow base e 1 v n xs) (hb:Below w.heap.size w w'):w'.ownsRow base e 1 v n xs:=
 h.kept (jU hb) (by
  rcases v.ownBlock with _ | k
  ·exact .inl rfl
  ·exact .inr (by simp))
end Go.Proofs.YtiiojpnckbglcaaGreat
