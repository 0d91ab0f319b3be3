/-
Conditions, rules and policies that are right.
-/
import Derived.Test.YtofkhbmdhahgpaaEqA
import Derived.Test.YtofkhbmdhahgpaaEqL
set_option linter.unusedVariables false
set_option linter.unusedSimpArgs false
set_option maxRecDepth 10000
namespace Go.Proofs.Ytofkhbmdhahgpaa.Flat
end Go.Proofs.Ytofkhbmdhahgpaa.Flat
