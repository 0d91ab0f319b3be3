/-
What is handed: counted.
-/
import Derived.Test.YtofkhbmdhahgpaaFlatCF
import Derived.Test.YtofkhbmdhahgpaaEqD
set_option linter.unusedVariables false
set_option linter.unusedSimpArgs false
set_option maxRecDepth 10000
namespace Go.Proofs.Ytofkhbmdhahgpaa.Flat
end Go.Proofs.Ytofkhbmdhahgpaa.Flat
