/-
Epochs and leases: looked up, compared, taken.
-/
import Derived.Test.YtkcapoambnnekaaEqE
import Derived.Test.YtkcapoambnnekaaEqG
set_option linter.unusedVariables false
set_option linter.unusedSimpArgs false
set_option maxRecDepth 10000
namespace Go.Proofs.Ytkcapoambnnekaa.Flat
end Go.Proofs.Ytkcapoambnnekaa.Flat
