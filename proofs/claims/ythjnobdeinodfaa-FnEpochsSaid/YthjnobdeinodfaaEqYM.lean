/-
Marks in rows of flat cells.
-/
import Derived.Test.YthjnobdeinodfaaEqY
set_option linter.unusedVariables false
set_option linter.unusedSimpArgs false
set_option maxRecDepth 10000
namespace Go.Proofs.Ythjnobdeinodfaa.Flat
end Go.Proofs.Ythjnobdeinodfaa.Flat
