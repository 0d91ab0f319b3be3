/-
Rules that meet; diagrams compared and counted.
-/
import Derived.Test.YtfljmpjckeopgaaGreatEqQ
import Derived.Test.YtfljmpjckeopgaaGreatEqL
set_option linter.unusedVariables false
set_option linter.unusedSimpArgs false
set_option maxRecDepth 10000
namespace Go.Proofs.YtfljmpjckeopgaaGreat.Flat
def meet (r s : Rule) : Bool := (((r.action == s.action) || (r.action == -1)) || (s.action == -1)) && (((r.object == s.object) || (r.object == -1)) || (s.object == -1))
end Go.Proofs.YtfljmpjckeopgaaGreat.Flat
