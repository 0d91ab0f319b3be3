/-
What is handed: compared.
-/
import Derived.Test.YthjnobdeinodfaaFlatCF
import Derived.Test.YthjnobdeinodfaaEqD
set_option linter.unusedVariables false
set_option linter.unusedSimpArgs false
set_option maxRecDepth 10000
namespace Go.Proofs.Ythjnobdeinodfaa.Flat
end Go.Proofs.Ythjnobdeinodfaa.Flat
