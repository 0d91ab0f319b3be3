/-
Roles of a person.
-/
import Derived.Test.YtbajieiodabdgaaEqI
import Derived.Test.YtbajieiodabdgaaEqF
import Derived.Test.YtbajieiodabdgaaEqU
set_option linter.unusedVariables false
set_option linter.unusedSimpArgs false
set_option maxRecDepth 10000
namespace Go.Proofs.Ytbajieiodabdgaa.Flat
end Go.Proofs.Ytbajieiodabdgaa.Flat
