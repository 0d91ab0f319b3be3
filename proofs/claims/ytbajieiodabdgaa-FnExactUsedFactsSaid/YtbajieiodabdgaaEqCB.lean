/-
Atoms, and conditions that can both hold.
-/
import Derived.Test.YtbajieiodabdgaaEqGA
import Derived.Test.YtbajieiodabdgaaEqTO
import Derived.Test.YtbajieiodabdgaaEqJ
set_option linter.unusedVariables false
set_option linter.unusedSimpArgs false
set_option maxRecDepth 10000
namespace Go.Proofs.Ytbajieiodabdgaa.Flat
theorem leaves_nil : Leaves [] := fun _ h => by simp at h
end Go.Proofs.Ytbajieiodabdgaa.Flat
