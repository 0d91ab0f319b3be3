/-
Conditions, rules and policies compared by the program and by the reference.
-/
import Derived.Test.YtfiapiobaelgoaaGreatEqQ
import Derived.Test.YtfiapiobaelgoaaGreatEqL
set_option linter.unusedVariables false
set_option linter.unusedSimpArgs false
set_option maxRecDepth 10000
namespace Go.Proofs.YtfiapiobaelgoaaGreat.Flat
end Go.Proofs.YtfiapiobaelgoaaGreat.Flat
