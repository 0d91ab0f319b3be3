/-
Facts: which hold, which is found.
-/
import Derived.Test.YtbajieiodabdgaaEqG
set_option linter.unusedVariables false
set_option linter.unusedSimpArgs false
set_option maxRecDepth 10000
namespace Go.Proofs.Ytbajieiodabdgaa.Flat
def within (a b n : Int) : Bool := isT a && (isT b && (isT n && inR n a b))
end Go.Proofs.Ytbajieiodabdgaa.Flat
