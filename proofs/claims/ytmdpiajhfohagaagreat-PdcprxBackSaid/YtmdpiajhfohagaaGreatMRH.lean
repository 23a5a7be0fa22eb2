import Derived.Test.YtmdpiajhfohagaaGreatMRE
import Derived.Test.YtmdpiajhfohagaaGreatMRF
import Derived.Test.YtmdpiajhfohagaaGreatMGI
namespace Go.Proofs.YtmdpiajhfohagaaGreat
open Go.RowKit
attribute [local go_sem ↓] Go.wp_at_zero Go.wp_at_succ
set_option linter.unusedVariables false
end Go.Proofs.YtmdpiajhfohagaaGreat
