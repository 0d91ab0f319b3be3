/-
Diagrams that are right, and what they answer.
-/
import Derived.Test.YtbajieiodabdgaaEqA
import Derived.Test.YtbajieiodabdgaaEqL
set_option linter.unusedVariables false
set_option linter.unusedSimpArgs false
set_option maxRecDepth 10000
namespace Go.Proofs.Ytbajieiodabdgaa.Flat
end Go.Proofs.Ytbajieiodabdgaa.Flat
