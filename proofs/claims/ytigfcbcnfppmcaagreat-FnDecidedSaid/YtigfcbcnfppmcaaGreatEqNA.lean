/-
Chosen numbers and chosen facts.
-/
import Derived.Test.YtigfcbcnfppmcaaGreatEqY
set_option linter.unusedVariables false
set_option linter.unusedSimpArgs false
set_option maxRecDepth 10000
namespace Go.Proofs.YtigfcbcnfppmcaaGreat.Flat
theorem scals_Fact (m : List Fact) : AV.scals (m.map (Fact.enc true)) = true := by
  induction m with
  | nil => rfl
  | cons b m ih => simpa [AV.scals, AV.scal, enc_Fact] using ih
end Go.Proofs.YtigfcbcnfppmcaaGreat.Flat
