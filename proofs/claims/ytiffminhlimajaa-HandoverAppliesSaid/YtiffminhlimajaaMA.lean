/- law 47, XHA without what XU has. -/
import Derived.Test.YtiffminhlimajaaU
import Derived.Test.YtiffminhlimajaaApp
import Derived.Test.YtiffminhlimajaaStr
import Derived.Test.YtiffminhlimajaaHN
import Derived.BigGuardPart
import Derived.BigQuiet
import Derived.Deep.DeepFit
import Derived.Deep.OwnRows
import Derived.Deep.QuietTactic
import Derived.Handy
import Derived.KernelRfl
import Derived.ScopeJumps
import Derived.WalkLawsBesides
import Derived.WalkMore
import Derived.WalkSpells
import Derived.RegionTactic
namespace Go.Proofs.Ytiffminhlimajaa
open Go.RowKit
theorem same_cond (a b : Nat) : (a == b) = decide (a = b) := rfl
end Go.Proofs.Ytiffminhlimajaa
