/-
Roles under roles, epochs as they should be.
-/
import Derived.Test.YtogjbacgkcodmaaEqG
import Derived.Test.YtogjbacgkcodmaaEqH
import Derived.Test.YtogjbacgkcodmaaEqR
set_option linter.unusedVariables false
set_option linter.unusedSimpArgs false
set_option maxRecDepth 10000
namespace Go.Proofs.Ytogjbacgkcodmaa.Flat
/-! ### a row of marks in a variable -/
/-- The roles under a role, by the marks. -/
def under (m : List Bool) (n : Nat) : List Int := ((List.range n).filter fun i => (m[i]?).getD false).map Int.ofNat
def goStep (_ : Nat) (_ : Nat) (_ : Unit) : Sum Unit Unit := .inr ()
end Go.Proofs.Ytogjbacgkcodmaa.Flat
