/-
Conditions, rules and policies compared by the program and by the reference.
-/
import Derived.Test.YtigfcbcnfppmcaaGreatEqQ
import Derived.Test.YtigfcbcnfppmcaaGreatEqL
set_option linter.unusedVariables false
set_option linter.unusedSimpArgs false
set_option maxRecDepth 10000
namespace Go.Proofs.YtigfcbcnfppmcaaGreat.Flat
end Go.Proofs.YtigfcbcnfppmcaaGreat.Flat
