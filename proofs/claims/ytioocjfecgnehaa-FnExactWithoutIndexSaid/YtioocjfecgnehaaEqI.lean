/-
Roles under roles, epochs as they should be.
-/
import Derived.Test.YtioocjfecgnehaaEqG
import Derived.Test.YtioocjfecgnehaaEqH
import Derived.Test.YtioocjfecgnehaaEqR
set_option linter.unusedVariables false
set_option linter.unusedSimpArgs false
set_option maxRecDepth 10000
namespace Go.Proofs.Ytioocjfecgnehaa.Flat
/-- The roles under a role, by the marks. -/
def under (m : List Bool) (n : Nat) : List Int := ((List.range n).filter fun i => (m[i]?).getD false).map Int.ofNat
end Go.Proofs.Ytioocjfecgnehaa.Flat
