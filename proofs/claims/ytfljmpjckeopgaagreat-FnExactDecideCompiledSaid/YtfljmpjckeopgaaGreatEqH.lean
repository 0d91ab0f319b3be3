/-
Epochs and leases: looked up, compared, taken.
-/
import Derived.Test.YtfljmpjckeopgaaGreatEqE
import Derived.Test.YtfljmpjckeopgaaGreatEqG
set_option linter.unusedVariables false
set_option linter.unusedSimpArgs false
set_option maxRecDepth 10000
namespace Go.Proofs.YtfljmpjckeopgaaGreat.Flat
end Go.Proofs.YtfljmpjckeopgaaGreat.Flat
