/-
Epochs and leases: looked up, compared, taken.
-/
import Derived.Test.YtbajieiodabdgaaEqE
import Derived.Test.YtbajieiodabdgaaEqG
set_option linter.unusedVariables false
set_option linter.unusedSimpArgs false
set_option maxRecDepth 10000
namespace Go.Proofs.Ytbajieiodabdgaa.Flat
end Go.Proofs.Ytbajieiodabdgaa.Flat
