import Derived.Test.YtiiojpnckbglcaaGreatWz
set_option linter.unusedVariables false
set_option linter.unusedSimpArgs false
namespace Go.Proofs.YtiiojpnckbglcaaGreat
def jQ (z:Nat->Int) (j:Nat):Bool:=(z (j / 8)).toNat / 2 ^ (7-j % 8) % 2 == 1
end Go.Proofs.YtiiojpnckbglcaaGreat
