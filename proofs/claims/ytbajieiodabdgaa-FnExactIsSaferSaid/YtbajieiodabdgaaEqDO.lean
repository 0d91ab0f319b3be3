/-
Which atoms a diagram asks.
-/
import Derived.Test.YtbajieiodabdgaaEqU
import Derived.Test.YtbajieiodabdgaaEqW
import Derived.Test.YtbajieiodabdgaaEqYM
set_option linter.unusedVariables false
set_option linter.unusedSimpArgs false
set_option maxRecDepth 10000
namespace Go.Proofs.Ytbajieiodabdgaa.Flat
def asks (l : List Choice) (i : Nat) : Bool := l.any fun c => c.atom == (i : Int)
end Go.Proofs.Ytbajieiodabdgaa.Flat
