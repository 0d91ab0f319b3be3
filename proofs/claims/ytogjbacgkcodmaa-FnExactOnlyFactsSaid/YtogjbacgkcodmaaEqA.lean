/-
Functions on whole numbers: what they compute.
-/
import Derived.Test.YtogjbacgkcodmaaFlatCF
import Derived.Test.YtogjbacgkcodmaaEqD
set_option linter.unusedVariables false
set_option linter.unusedSimpArgs false
namespace Go.Proofs.Ytogjbacgkcodmaa.Flat
end Go.Proofs.Ytogjbacgkcodmaa.Flat
