/-
Epochs and leases: looked up, compared, taken.
-/
import Derived.Test.YtogjbacgkcodmaaEqE
import Derived.Test.YtogjbacgkcodmaaEqG
set_option linter.unusedVariables false
set_option linter.unusedSimpArgs false
set_option maxRecDepth 10000
namespace Go.Proofs.Ytogjbacgkcodmaa.Flat
end Go.Proofs.Ytogjbacgkcodmaa.Flat
