/-
Roles of a person.
-/
import Derived.Test.YtofkhbmdhahgpaaEqI
import Derived.Test.YtofkhbmdhahgpaaEqF
import Derived.Test.YtofkhbmdhahgpaaEqU
set_option linter.unusedVariables false
set_option linter.unusedSimpArgs false
set_option maxRecDepth 10000
namespace Go.Proofs.Ytofkhbmdhahgpaa.Flat
end Go.Proofs.Ytofkhbmdhahgpaa.Flat
