/-
Conditions, rules and policies compared by the program and by the reference.
-/
import Derived.Test.YtaoemmefjakjnaaEqQ
import Derived.Test.YtaoemmefjakjnaaEqL
set_option linter.unusedVariables false
set_option linter.unusedSimpArgs false
set_option maxRecDepth 10000
namespace Go.Proofs.Ytaoemmefjakjnaa.Flat
end Go.Proofs.Ytaoemmefjakjnaa.Flat
