/-
Epochs and leases: looked up, compared, taken.
-/
import Derived.Test.YtigfcbcnfppmcaaGreatEqE
import Derived.Test.YtigfcbcnfppmcaaGreatEqG
set_option linter.unusedVariables false
set_option linter.unusedSimpArgs false
set_option maxRecDepth 10000
namespace Go.Proofs.YtigfcbcnfppmcaaGreat.Flat
end Go.Proofs.YtigfcbcnfppmcaaGreat.Flat
