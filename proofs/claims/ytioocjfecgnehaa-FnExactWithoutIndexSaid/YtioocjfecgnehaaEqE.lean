/-
Conditions, rules and policies compared by the program and by the reference.
-/
import Derived.Test.YtioocjfecgnehaaEqQ
import Derived.Test.YtioocjfecgnehaaEqL
set_option linter.unusedVariables false
set_option linter.unusedSimpArgs false
set_option maxRecDepth 10000
namespace Go.Proofs.Ytioocjfecgnehaa.Flat
end Go.Proofs.Ytioocjfecgnehaa.Flat
