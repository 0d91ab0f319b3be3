/-
Conditions, rules and policies that are right.
-/
import Derived.Test.YtioocjfecgnehaaEqA
import Derived.Test.YtioocjfecgnehaaEqL
set_option linter.unusedVariables false
set_option linter.unusedSimpArgs false
set_option maxRecDepth 10000
namespace Go.Proofs.Ytioocjfecgnehaa.Flat
end Go.Proofs.Ytioocjfecgnehaa.Flat
