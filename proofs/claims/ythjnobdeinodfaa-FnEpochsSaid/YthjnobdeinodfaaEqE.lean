/-
Conditions, rules and policies compared by the program and by the reference.
-/
import Derived.Test.YthjnobdeinodfaaEqQ
import Derived.Test.YthjnobdeinodfaaEqL
set_option linter.unusedVariables false
set_option linter.unusedSimpArgs false
set_option maxRecDepth 10000
namespace Go.Proofs.Ythjnobdeinodfaa.Flat
end Go.Proofs.Ythjnobdeinodfaa.Flat
