/-
Marks in rows within rows.
-/
import Derived.Test.YtigfcbcnfppmcaaGreatEqYM
import Derived.Test.YtigfcbcnfppmcaaGreatEqS
set_option linter.unusedVariables false
set_option linter.unusedSimpArgs false
set_option maxRecDepth 10000
namespace Go.Proofs.YtigfcbcnfppmcaaGreat.Flat
/-! ### marks, element by element -/
section
variable {α : Type} (M : Int → α → α) (W : α → Nat) (T : α → AV)
variable {M W T}
end
/-! ### conditions -/
end Go.Proofs.YtigfcbcnfppmcaaGreat.Flat
