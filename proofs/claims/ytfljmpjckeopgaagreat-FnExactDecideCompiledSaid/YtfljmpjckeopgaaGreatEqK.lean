/-
Conditions and policies by the values of their leaves.
-/
import Derived.Test.YtfljmpjckeopgaaGreatEqE
import Derived.Test.YtfljmpjckeopgaaGreatEqG
import Derived.Test.YtfljmpjckeopgaaGreatEqJ
set_option linter.unusedVariables false
set_option linter.unusedSimpArgs false
set_option maxRecDepth 10000
namespace Go.Proofs.YtfljmpjckeopgaaGreat.Flat
end Go.Proofs.YtfljmpjckeopgaaGreat.Flat
