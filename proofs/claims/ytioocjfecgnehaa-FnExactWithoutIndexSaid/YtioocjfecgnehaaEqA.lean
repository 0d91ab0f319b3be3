/-
Functions on whole numbers: what they compute.
-/
import Derived.Test.YtioocjfecgnehaaFlatCF
import Derived.Test.YtioocjfecgnehaaEqD
set_option linter.unusedVariables false
set_option linter.unusedSimpArgs false
namespace Go.Proofs.Ytioocjfecgnehaa.Flat
end Go.Proofs.Ytioocjfecgnehaa.Flat
