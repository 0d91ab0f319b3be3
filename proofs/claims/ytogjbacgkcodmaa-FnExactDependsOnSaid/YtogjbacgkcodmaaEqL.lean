/-
What is handed: searched and compared by functions.
-/
import Derived.Test.YtogjbacgkcodmaaFlatCF
import Derived.Test.YtogjbacgkcodmaaEqD
import Derived.Test.YtogjbacgkcodmaaEqQ
set_option linter.unusedVariables false
set_option linter.unusedSimpArgs false
set_option maxRecDepth 10000
namespace Go.Proofs.Ytogjbacgkcodmaa.Flat
end Go.Proofs.Ytogjbacgkcodmaa.Flat
