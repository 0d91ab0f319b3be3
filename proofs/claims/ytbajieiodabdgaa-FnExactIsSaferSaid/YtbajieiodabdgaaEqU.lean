/-
Whole numbers in order, each once: the plain law, no program in sight.
-/
import Derived.Test.YtbajieiodabdgaaFlatM4
set_option linter.unusedVariables false
set_option linter.unusedSimpArgs false
namespace Go.Proofs.Ytbajieiodabdgaa.Flat
open Go.Lib
end Go.Proofs.Ytbajieiodabdgaa.Flat
