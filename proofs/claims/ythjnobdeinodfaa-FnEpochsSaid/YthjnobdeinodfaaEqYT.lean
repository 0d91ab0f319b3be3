/-
Marks in rows within rows.
-/
import Derived.Test.YthjnobdeinodfaaEqYM
import Derived.Test.YthjnobdeinodfaaEqS
set_option linter.unusedVariables false
set_option linter.unusedSimpArgs false
set_option maxRecDepth 10000
namespace Go.Proofs.Ythjnobdeinodfaa.Flat
/-! ### marks, element by element -/
section
variable {α : Type} (M : Int → α → α) (W : α → Nat) (T : α → AV)
variable {M W T}
end
/-! ### conditions -/
end Go.Proofs.Ythjnobdeinodfaa.Flat
