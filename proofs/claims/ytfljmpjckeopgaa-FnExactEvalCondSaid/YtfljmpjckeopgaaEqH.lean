/-
Epochs and leases: looked up, compared, taken.
-/
import Derived.Test.YtfljmpjckeopgaaEqE
import Derived.Test.YtfljmpjckeopgaaEqG
set_option linter.unusedVariables false
set_option linter.unusedSimpArgs false
set_option maxRecDepth 10000
namespace Go.Proofs.Ytfljmpjckeopgaa.Flat
end Go.Proofs.Ytfljmpjckeopgaa.Flat
