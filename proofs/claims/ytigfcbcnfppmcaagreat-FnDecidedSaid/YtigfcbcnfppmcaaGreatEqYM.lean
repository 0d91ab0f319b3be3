/-
Marks in rows of flat cells.
-/
import Derived.Test.YtigfcbcnfppmcaaGreatEqY
set_option linter.unusedVariables false
set_option linter.unusedSimpArgs false
set_option maxRecDepth 10000
namespace Go.Proofs.YtigfcbcnfppmcaaGreat.Flat
end Go.Proofs.YtigfcbcnfppmcaaGreat.Flat
