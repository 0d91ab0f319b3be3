/-
Epochs and leases: looked up, compared, taken.
-/
import Derived.Test.YtfiapiobaelgoaaGreatEqE
import Derived.Test.YtfiapiobaelgoaaGreatEqG
set_option linter.unusedVariables false
set_option linter.unusedSimpArgs false
set_option maxRecDepth 10000
namespace Go.Proofs.YtfiapiobaelgoaaGreat.Flat
end Go.Proofs.YtfiapiobaelgoaaGreat.Flat
