/-
Whole numbers in order, each once: the plain law, no program in sight.
-/
import Derived.Test.YtofkhbmdhahgpaaFlatM4
set_option linter.unusedVariables false
set_option linter.unusedSimpArgs false
namespace Go.Proofs.Ytofkhbmdhahgpaa.Flat
open Go.Lib
end Go.Proofs.Ytofkhbmdhahgpaa.Flat
