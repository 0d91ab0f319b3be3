/-
A policy by the values of its atoms.
-/
import Derived.Test.YtbajieiodabdgaaEqK
set_option linter.unusedVariables false
set_option linter.unusedSimpArgs false
set_option maxRecDepth 10000
namespace Go.Proofs.Ytbajieiodabdgaa.Flat
end Go.Proofs.Ytbajieiodabdgaa.Flat
