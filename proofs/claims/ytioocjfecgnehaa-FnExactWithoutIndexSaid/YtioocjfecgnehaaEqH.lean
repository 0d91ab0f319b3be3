/-
Epochs and leases: looked up, compared, taken.
-/
import Derived.Test.YtioocjfecgnehaaEqE
import Derived.Test.YtioocjfecgnehaaEqG
set_option linter.unusedVariables false
set_option linter.unusedSimpArgs false
set_option maxRecDepth 10000
namespace Go.Proofs.Ytioocjfecgnehaa.Flat
end Go.Proofs.Ytioocjfecgnehaa.Flat
