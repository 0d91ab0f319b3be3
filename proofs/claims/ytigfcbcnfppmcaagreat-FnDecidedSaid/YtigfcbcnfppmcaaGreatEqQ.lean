/-
What is handed: compared.
-/
import Derived.Test.YtigfcbcnfppmcaaGreatFlatCF
import Derived.Test.YtigfcbcnfppmcaaGreatEqD
set_option linter.unusedVariables false
set_option linter.unusedSimpArgs false
set_option maxRecDepth 10000
namespace Go.Proofs.YtigfcbcnfppmcaaGreat.Flat
end Go.Proofs.YtigfcbcnfppmcaaGreat.Flat
