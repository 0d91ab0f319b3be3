/-
A policy by the values of its atoms.
-/
import Derived.Test.YtfljmpjckeopgaaGreatEqK
set_option linter.unusedVariables false
set_option linter.unusedSimpArgs false
set_option maxRecDepth 10000
namespace Go.Proofs.YtfljmpjckeopgaaGreat.Flat
end Go.Proofs.YtfljmpjckeopgaaGreat.Flat
