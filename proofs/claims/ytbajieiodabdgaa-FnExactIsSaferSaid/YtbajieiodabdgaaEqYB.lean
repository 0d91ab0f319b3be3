/-
Marks in rows of truth values.
-/
import Derived.Test.YtbajieiodabdgaaEqTO
import Derived.Test.YtbajieiodabdgaaEqDO
set_option linter.unusedVariables false
set_option linter.unusedSimpArgs false
set_option maxRecDepth 10000
namespace Go.Proofs.Ytbajieiodabdgaa.Flat
end Go.Proofs.Ytbajieiodabdgaa.Flat
