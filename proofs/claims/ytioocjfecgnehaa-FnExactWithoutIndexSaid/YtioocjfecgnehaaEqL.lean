/-
What is handed: searched and compared by functions.
-/
import Derived.Test.YtioocjfecgnehaaFlatCF
import Derived.Test.YtioocjfecgnehaaEqD
import Derived.Test.YtioocjfecgnehaaEqQ
set_option linter.unusedVariables false
set_option linter.unusedSimpArgs false
set_option maxRecDepth 10000
namespace Go.Proofs.Ytioocjfecgnehaa.Flat

end Go.Proofs.Ytioocjfecgnehaa.Flat
