/-
Conditions, rules and policies compared by the program and by the reference.
-/
import Derived.Test.YtofkhbmdhahgpaaEqQ
import Derived.Test.YtofkhbmdhahgpaaEqL
set_option linter.unusedVariables false
set_option linter.unusedSimpArgs false
set_option maxRecDepth 10000
namespace Go.Proofs.Ytofkhbmdhahgpaa.Flat
end Go.Proofs.Ytofkhbmdhahgpaa.Flat
