/-
Facts: which hold, which is found.
-/
import Derived.Test.YtofkhbmdhahgpaaEqG
set_option linter.unusedVariables false
set_option linter.unusedSimpArgs false
set_option maxRecDepth 10000
namespace Go.Proofs.Ytofkhbmdhahgpaa.Flat
end Go.Proofs.Ytofkhbmdhahgpaa.Flat
