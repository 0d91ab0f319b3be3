/-
Conditions and policies by the values of their leaves.
-/
import Derived.Test.YtfljmpjckeopgaaEqE
import Derived.Test.YtfljmpjckeopgaaEqG
import Derived.Test.YtfljmpjckeopgaaEqJ
set_option linter.unusedVariables false
set_option linter.unusedSimpArgs false
set_option maxRecDepth 10000
namespace Go.Proofs.Ytfljmpjckeopgaa.Flat
end Go.Proofs.Ytfljmpjckeopgaa.Flat
