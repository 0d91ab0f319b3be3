/-
Conditions, rules and policies compared by the program and by the reference.
-/
import Derived.Test.YtfljmpjckeopgaaEqQ
import Derived.Test.YtfljmpjckeopgaaEqL
set_option linter.unusedVariables false
set_option linter.unusedSimpArgs false
set_option maxRecDepth 10000
namespace Go.Proofs.Ytfljmpjckeopgaa.Flat
end Go.Proofs.Ytfljmpjckeopgaa.Flat
