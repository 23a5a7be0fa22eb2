import Derived.Test.YtmdpiajhfohagaaGreatMDI
import Derived.Test.YtmdpiajhfohagaaGreatMDE
namespace Go.Proofs.YtmdpiajhfohagaaGreat
open Go.RowKit
set_option linter.unusedVariables false
set_option linter.unusedSimpArgs false
attribute [local go_sem ↓] Go.wp_at_zero Go.wp_at_succ
end Go.Proofs.YtmdpiajhfohagaaGreat
