/-
Conditions, rules and policies compared by the program and by the reference.
-/
import Derived.Test.YtkcapoambnnekaaEqQ
import Derived.Test.YtkcapoambnnekaaEqL
set_option linter.unusedVariables false
set_option linter.unusedSimpArgs false
set_option maxRecDepth 10000
namespace Go.Proofs.Ytkcapoambnnekaa.Flat
end Go.Proofs.Ytkcapoambnnekaa.Flat
