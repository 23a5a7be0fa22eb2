import Derived.Test.YtmdpiajhfohagaaGreatMDE
import Derived.Test.YtmdpiajhfohagaaGreatMGD
import Derived.Test.YtmdpiajhfohagaaGreatMGJ
import Derived.Test.YtmdpiajhfohagaaGreatMGC
namespace Go.Proofs.YtmdpiajhfohagaaGreat
open Go.RowKit
set_option linter.unusedVariables false
set_option linter.unusedSimpArgs false
attribute [local go_sem ↓] Go.wp_at_zero Go.wp_at_succ
end Go.Proofs.YtmdpiajhfohagaaGreat
namespace Go.Proofs.YtmdpiajhfohagaaGreat
open Go.RowKit
attribute [local go_sem ↓] Go.wp_at_zero Go.wp_at_succ
end Go.Proofs.YtmdpiajhfohagaaGreat
