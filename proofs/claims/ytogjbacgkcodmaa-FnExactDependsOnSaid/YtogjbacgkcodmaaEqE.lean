/-
Conditions, rules and policies compared by the program and by the reference.
-/
import Derived.Test.YtogjbacgkcodmaaEqQ
import Derived.Test.YtogjbacgkcodmaaEqL
set_option linter.unusedVariables false
set_option linter.unusedSimpArgs false
set_option maxRecDepth 10000
namespace Go.Proofs.Ytogjbacgkcodmaa.Flat
end Go.Proofs.Ytogjbacgkcodmaa.Flat
