/-
Conditions, rules and policies compared by the program and by the reference.
-/
import Derived.Test.YtfljmpjckeopgaaGreatEqQ
import Derived.Test.YtfljmpjckeopgaaGreatEqL
set_option linter.unusedVariables false
set_option linter.unusedSimpArgs false
set_option maxRecDepth 10000
namespace Go.Proofs.YtfljmpjckeopgaaGreat.Flat
end Go.Proofs.YtfljmpjckeopgaaGreat.Flat
