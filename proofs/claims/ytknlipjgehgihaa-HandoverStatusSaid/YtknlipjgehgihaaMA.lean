/- law 47, XHA without what XU has. -/
import Derived.Test.YtknlipjgehgihaaU
import Derived.Test.YtknlipjgehgihaaApp
import Derived.Test.YtknlipjgehgihaaStr
import Derived.Test.YtknlipjgehgihaaHN
import Derived.BigGuardPart
import Derived.BigQuiet
import Derived.Deep.DeepFit
import Derived.Deep.OwnRows
import Derived.Deep.QuietTactic
import Derived.Handy
import Derived.KernelRfl
import Derived.ScopeJumps
import Derived.WalkLawsBesides
import Derived.WalkMore
import Derived.WalkSpells
import Derived.RegionTactic
namespace Go.Proofs.Ytknlipjgehgihaa
open Go.RowKit
theorem same_cond (a b : Nat) : (a == b) = decide (a = b) := rfl
end Go.Proofs.Ytknlipjgehgihaa
