/-
What is handed: counted.
-/
import Derived.Test.YtioocjfecgnehaaFlatCF
import Derived.Test.YtioocjfecgnehaaEqD
set_option linter.unusedVariables false
set_option linter.unusedSimpArgs false
set_option maxRecDepth 10000
namespace Go.Proofs.Ytioocjfecgnehaa.Flat

end Go.Proofs.Ytioocjfecgnehaa.Flat
