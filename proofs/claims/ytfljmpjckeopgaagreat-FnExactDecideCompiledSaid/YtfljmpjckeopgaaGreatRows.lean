/-
  NARROWER THAN 'FOR EVERY INPUT', by the rows' own cells (each row's printed sentence says how): FnExactExplainFacts: loops · FnExactHoldsUntil: loops · FnExactNeverHolds: loops · FnExactDecideCompiled: loops · FnExactDecideBy: loops · FnExactRulesThatHold: loops · FnExactSuffices: loops · FnExactIsNeeded: loops.
  DERIVED. THE GIVEN ROWS OF THIS SEAT. 8 by the template 'for every input the law returns true; each argument reads behind the call as it read before'; 0 by the template 'total and deterministic' (their statements: YtfljmpjckeopgaaGreatTotals.lean).
  GIVEN WITH THE SEED: the statements are not yours to turn. If you find one false, say at which input.
  Laid BY PROGRAM, IN A SANDBOX (cutbox-rows.mjs): the forced cells as the released guide's own fill.sh prints them over the translation 264c3d5aec378ec1… (all of the seat's roots in one cut). By AI agents, Wed Nov 11 2026. No macro, syntax, notation, axiom, sorry.
-/
import Derived.Test.YtfljmpjckeopgaaGreatChecked
import GoSem.Claim
import GoSem.ClaimJoined
import GoSem.ClaimMapViews
import Derived.JoinedTies
import Derived.KernelRfl
namespace Go.Proofs.YtfljmpjckeopgaaGreat
/- THE CELL 'sum', in the pinned program and in every row, IS THE sha256 OF THE DUMP (.gsa) THAT YtfljmpjckeopgaaGreatProg.lean LOADS. Nothing in Lean hashes anything: it is a label: what it is worth is what the hold of that sum in a sandbox is worth. -/
noncomputable def Tryz.pinned : Pinned := { name := "ytfljmpjckeopgaagreat", sum := "264c3d5aec378ec174ae850722dba99b3b95982e4e858a069d0a4bbda6206712", checked := Tryz.checked }
namespace Rows
def none {H : Type} : Left H := { results := [], args := [] }

/-- 'laws.FnExactExplainFacts': WHATEVER THE INPUT: true; the input reads as it did. -/
def fnExactExplainFactsSpec : ChangeSpec := { name := "fnExactExplainFacts", fn := fun _ => fun
  | [d1, d2, d3, d4] => { results := [.lit (.bool true)], args := [d1, d2, d3, d4] }
  | _ => none }
def fnExactExplainFactsRow : OpenClaim := { program := "ytfljmpjckeopgaagreat", sum := "264c3d5aec378ec174ae850722dba99b3b95982e4e858a069d0a4bbda6206712", func := "loop.example/g00594/laws.FnExactExplainFacts", spec := "fnExactExplainFacts", unfollowed := true, recurses := true, loops := true, apart := false }
def FnExactExplainFactsSaid : Prop := fnExactExplainFactsRow.holds Tryz.pinned (OpenSpec.ofChange fnExactExplainFactsSpec)

/-- ITS FALSE NEIGHBOUR: 'it returns false'. Refute it at one input. -/
def fnExactExplainFactsWrong : ChangeSpec := { name := "fnExactExplainFacts", fn := fun _ => fun
  | [d1, d2, d3, d4] => { results := [.lit (.bool false)], args := [d1, d2, d3, d4] }
  | _ => none }
def FnExactExplainFactsWrongFalsely : Prop := fnExactExplainFactsRow.holds Tryz.pinned (OpenSpec.ofChange fnExactExplainFactsWrong)

/-- 'laws.FnExactHoldsUntil': WHATEVER THE INPUT: true; the input reads as it did. -/
def fnExactHoldsUntilSpec : ChangeSpec := { name := "fnExactHoldsUntil", fn := fun _ => fun
  | [d1, d2, d3, d4, d5] => { results := [.lit (.bool true)], args := [d1, d2, d3, d4, d5] }
  | _ => none }
def fnExactHoldsUntilRow : OpenClaim := { program := "ytfljmpjckeopgaagreat", sum := "264c3d5aec378ec174ae850722dba99b3b95982e4e858a069d0a4bbda6206712", func := "loop.example/g00594/laws.FnExactHoldsUntil", spec := "fnExactHoldsUntil", unfollowed := true, recurses := true, loops := true, apart := false }
def FnExactHoldsUntilSaid : Prop := fnExactHoldsUntilRow.holds Tryz.pinned (OpenSpec.ofChange fnExactHoldsUntilSpec)

/-- ITS FALSE NEIGHBOUR: 'it returns false'. Refute it at one input. -/
def fnExactHoldsUntilWrong : ChangeSpec := { name := "fnExactHoldsUntil", fn := fun _ => fun
  | [d1, d2, d3, d4, d5] => { results := [.lit (.bool false)], args := [d1, d2, d3, d4, d5] }
  | _ => none }
def FnExactHoldsUntilWrongFalsely : Prop := fnExactHoldsUntilRow.holds Tryz.pinned (OpenSpec.ofChange fnExactHoldsUntilWrong)

/-- 'laws.FnExactNeverHolds': WHATEVER THE INPUT: true; the input reads as it did. -/
def fnExactNeverHoldsSpec : ChangeSpec := { name := "fnExactNeverHolds", fn := fun _ => fun
  | [d1, d2, d3, d4] => { results := [.lit (.bool true)], args := [d1, d2, d3, d4] }
  | _ => none }
def fnExactNeverHoldsRow : OpenClaim := { program := "ytfljmpjckeopgaagreat", sum := "264c3d5aec378ec174ae850722dba99b3b95982e4e858a069d0a4bbda6206712", func := "loop.example/g00594/laws.FnExactNeverHolds", spec := "fnExactNeverHolds", unfollowed := true, recurses := true, loops := true, apart := false }
def FnExactNeverHoldsSaid : Prop := fnExactNeverHoldsRow.holds Tryz.pinned (OpenSpec.ofChange fnExactNeverHoldsSpec)

/-- ITS FALSE NEIGHBOUR: 'it returns false'. Refute it at one input. -/
def fnExactNeverHoldsWrong : ChangeSpec := { name := "fnExactNeverHolds", fn := fun _ => fun
  | [d1, d2, d3, d4] => { results := [.lit (.bool false)], args := [d1, d2, d3, d4] }
  | _ => none }
def FnExactNeverHoldsWrongFalsely : Prop := fnExactNeverHoldsRow.holds Tryz.pinned (OpenSpec.ofChange fnExactNeverHoldsWrong)

/-- 'laws.FnExactDecideCompiled': WHATEVER THE INPUT: true; the input reads as it did. -/
def fnExactDecideCompiledSpec : ChangeSpec := { name := "fnExactDecideCompiled", fn := fun _ => fun
  | [d1, d2, d3, d4] => { results := [.lit (.bool true)], args := [d1, d2, d3, d4] }
  | _ => none }
def fnExactDecideCompiledRow : OpenClaim := { program := "ytfljmpjckeopgaagreat", sum := "264c3d5aec378ec174ae850722dba99b3b95982e4e858a069d0a4bbda6206712", func := "loop.example/g00594/laws.FnExactDecideCompiled", spec := "fnExactDecideCompiled", unfollowed := true, recurses := true, loops := true, apart := false }
def FnExactDecideCompiledSaid : Prop := fnExactDecideCompiledRow.holds Tryz.pinned (OpenSpec.ofChange fnExactDecideCompiledSpec)

/-- ITS FALSE NEIGHBOUR: 'it returns false'. Refute it at one input. -/
def fnExactDecideCompiledWrong : ChangeSpec := { name := "fnExactDecideCompiled", fn := fun _ => fun
  | [d1, d2, d3, d4] => { results := [.lit (.bool false)], args := [d1, d2, d3, d4] }
  | _ => none }
def FnExactDecideCompiledWrongFalsely : Prop := fnExactDecideCompiledRow.holds Tryz.pinned (OpenSpec.ofChange fnExactDecideCompiledWrong)

/-- 'laws.FnExactDecideBy': WHATEVER THE INPUT: true; the input reads as it did. -/
def fnExactDecideBySpec : ChangeSpec := { name := "fnExactDecideBy", fn := fun _ => fun
  | [d1, d2, d3, d4] => { results := [.lit (.bool true)], args := [d1, d2, d3, d4] }
  | _ => none }
def fnExactDecideByRow : OpenClaim := { program := "ytfljmpjckeopgaagreat", sum := "264c3d5aec378ec174ae850722dba99b3b95982e4e858a069d0a4bbda6206712", func := "loop.example/g00594/laws.FnExactDecideBy", spec := "fnExactDecideBy", unfollowed := true, recurses := true, loops := true, apart := false }
def FnExactDecideBySaid : Prop := fnExactDecideByRow.holds Tryz.pinned (OpenSpec.ofChange fnExactDecideBySpec)

/-- ITS FALSE NEIGHBOUR: 'it returns false'. Refute it at one input. -/
def fnExactDecideByWrong : ChangeSpec := { name := "fnExactDecideBy", fn := fun _ => fun
  | [d1, d2, d3, d4] => { results := [.lit (.bool false)], args := [d1, d2, d3, d4] }
  | _ => none }
def FnExactDecideByWrongFalsely : Prop := fnExactDecideByRow.holds Tryz.pinned (OpenSpec.ofChange fnExactDecideByWrong)

/-- 'laws.FnExactRulesThatHold': WHATEVER THE INPUT: true; the input reads as it did. -/
def fnExactRulesThatHoldSpec : ChangeSpec := { name := "fnExactRulesThatHold", fn := fun _ => fun
  | [d1, d2, d3, d4] => { results := [.lit (.bool true)], args := [d1, d2, d3, d4] }
  | _ => none }
def fnExactRulesThatHoldRow : OpenClaim := { program := "ytfljmpjckeopgaagreat", sum := "264c3d5aec378ec174ae850722dba99b3b95982e4e858a069d0a4bbda6206712", func := "loop.example/g00594/laws.FnExactRulesThatHold", spec := "fnExactRulesThatHold", unfollowed := true, recurses := true, loops := true, apart := false }
def FnExactRulesThatHoldSaid : Prop := fnExactRulesThatHoldRow.holds Tryz.pinned (OpenSpec.ofChange fnExactRulesThatHoldSpec)

/-- ITS FALSE NEIGHBOUR: 'it returns false'. Refute it at one input. -/
def fnExactRulesThatHoldWrong : ChangeSpec := { name := "fnExactRulesThatHold", fn := fun _ => fun
  | [d1, d2, d3, d4] => { results := [.lit (.bool false)], args := [d1, d2, d3, d4] }
  | _ => none }
def FnExactRulesThatHoldWrongFalsely : Prop := fnExactRulesThatHoldRow.holds Tryz.pinned (OpenSpec.ofChange fnExactRulesThatHoldWrong)

/-- 'laws.FnExactSuffices': WHATEVER THE INPUT: true; the input reads as it did. -/
def fnExactSufficesSpec : ChangeSpec := { name := "fnExactSuffices", fn := fun _ => fun
  | [d1, d2, d3, d4, d5] => { results := [.lit (.bool true)], args := [d1, d2, d3, d4, d5] }
  | _ => none }
def fnExactSufficesRow : OpenClaim := { program := "ytfljmpjckeopgaagreat", sum := "264c3d5aec378ec174ae850722dba99b3b95982e4e858a069d0a4bbda6206712", func := "loop.example/g00594/laws.FnExactSuffices", spec := "fnExactSuffices", unfollowed := true, recurses := true, loops := true, apart := false }
def FnExactSufficesSaid : Prop := fnExactSufficesRow.holds Tryz.pinned (OpenSpec.ofChange fnExactSufficesSpec)

/-- ITS FALSE NEIGHBOUR: 'it returns false'. Refute it at one input. -/
def fnExactSufficesWrong : ChangeSpec := { name := "fnExactSuffices", fn := fun _ => fun
  | [d1, d2, d3, d4, d5] => { results := [.lit (.bool false)], args := [d1, d2, d3, d4, d5] }
  | _ => none }
def FnExactSufficesWrongFalsely : Prop := fnExactSufficesRow.holds Tryz.pinned (OpenSpec.ofChange fnExactSufficesWrong)

/-- 'laws.FnExactIsNeeded': WHATEVER THE INPUT: true; the input reads as it did. -/
def fnExactIsNeededSpec : ChangeSpec := { name := "fnExactIsNeeded", fn := fun _ => fun
  | [d1, d2, d3, d4, d5, d6] => { results := [.lit (.bool true)], args := [d1, d2, d3, d4, d5, d6] }
  | _ => none }
def fnExactIsNeededRow : OpenClaim := { program := "ytfljmpjckeopgaagreat", sum := "264c3d5aec378ec174ae850722dba99b3b95982e4e858a069d0a4bbda6206712", func := "loop.example/g00594/laws.FnExactIsNeeded", spec := "fnExactIsNeeded", unfollowed := true, recurses := true, loops := true, apart := false }
def FnExactIsNeededSaid : Prop := fnExactIsNeededRow.holds Tryz.pinned (OpenSpec.ofChange fnExactIsNeededSpec)

/-- ITS FALSE NEIGHBOUR: 'it returns false'. Refute it at one input. -/
def fnExactIsNeededWrong : ChangeSpec := { name := "fnExactIsNeeded", fn := fun _ => fun
  | [d1, d2, d3, d4, d5, d6] => { results := [.lit (.bool false)], args := [d1, d2, d3, d4, d5, d6] }
  | _ => none }
def FnExactIsNeededWrongFalsely : Prop := fnExactIsNeededRow.holds Tryz.pinned (OpenSpec.ofChange fnExactIsNeededWrong)

/- THE SECOND FORM. 'bulk': how many values and letters a reading holds, each counted each time it is reached (what is shared counts as often as it is met; a slice's spare places count too). A statement '..UptoSaid' is the law's where the arguments, and the package variables that the reading takes, are together of bulk at most 1048576: NARROWER than '..Said'. Prove '..Said' where nothing that the law and all that it calls make is longer than what came in: it says more and counts as full. Else prove '..UptoSaid'. A law counts once. -/
mutual
def uptoBulk {H : Type} : DataW H → Nat
  | .lit (.string bytes) => bytes.length + 1
  | .lit _ => 1
  | .nil => 1
  | .ptr d => uptoBulk d + 1
  | .slice elems spare => uptoBulkAll elems + uptoBulkAll spare + 1
  | .agg parts => uptoBulkAll parts + 1
  | .iface _ d => uptoBulk d + 1
  | .map entries => uptoBulkEntries entries + 1
  | .held _ => 1
def uptoBulkAll {H : Type} : List (DataW H) → Nat
  | [] => 0
  | d :: r => uptoBulk d + uptoBulkAll r
def uptoBulkEntries {H : Type} : List (Lit × DataW H) → Nat
  | [] => 0
  | x :: r => uptoBulkEntry x + uptoBulkEntries r
def uptoBulkEntry {H : Type} : Lit × DataW H → Nat
  | (.string bytes, d) => bytes.length + uptoBulk d + 1
  | (_, d) => uptoBulk d + 1
 end
def uptoSmall : (H : Type) → List (DataW H) → Bool := fun _ ds => decide (uptoBulkAll ds ≤ 1048576)
def OpenSpec.upto (s : _root_.Go.ChangeSpec) : _root_.Go.OpenSpec := { _root_.Go.OpenSpec.ofChange s with cond := some uptoSmall }

/-- 'laws.FnExactExplainFacts', WHERE WHAT IT READS IS OF BULK AT MOST 1048576: true; the input reads as it did. -/
def fnExactExplainFactsUptoRow : OpenClaim := { program := "ytfljmpjckeopgaagreat", sum := "264c3d5aec378ec174ae850722dba99b3b95982e4e858a069d0a4bbda6206712", func := "loop.example/g00594/laws.FnExactExplainFacts", spec := "fnExactExplainFacts", unfollowed := true, recurses := true, loops := true, apart := false, narrowed := true }
def FnExactExplainFactsUptoSaid : Prop := fnExactExplainFactsUptoRow.holds Tryz.pinned (OpenSpec.upto fnExactExplainFactsSpec)

/-- 'laws.FnExactHoldsUntil', WHERE WHAT IT READS IS OF BULK AT MOST 1048576: true; the input reads as it did. -/
def fnExactHoldsUntilUptoRow : OpenClaim := { program := "ytfljmpjckeopgaagreat", sum := "264c3d5aec378ec174ae850722dba99b3b95982e4e858a069d0a4bbda6206712", func := "loop.example/g00594/laws.FnExactHoldsUntil", spec := "fnExactHoldsUntil", unfollowed := true, recurses := true, loops := true, apart := false, narrowed := true }
def FnExactHoldsUntilUptoSaid : Prop := fnExactHoldsUntilUptoRow.holds Tryz.pinned (OpenSpec.upto fnExactHoldsUntilSpec)

/-- 'laws.FnExactNeverHolds', WHERE WHAT IT READS IS OF BULK AT MOST 1048576: true; the input reads as it did. -/
def fnExactNeverHoldsUptoRow : OpenClaim := { program := "ytfljmpjckeopgaagreat", sum := "264c3d5aec378ec174ae850722dba99b3b95982e4e858a069d0a4bbda6206712", func := "loop.example/g00594/laws.FnExactNeverHolds", spec := "fnExactNeverHolds", unfollowed := true, recurses := true, loops := true, apart := false, narrowed := true }
def FnExactNeverHoldsUptoSaid : Prop := fnExactNeverHoldsUptoRow.holds Tryz.pinned (OpenSpec.upto fnExactNeverHoldsSpec)

/-- 'laws.FnExactDecideCompiled', WHERE WHAT IT READS IS OF BULK AT MOST 1048576: true; the input reads as it did. -/
def fnExactDecideCompiledUptoRow : OpenClaim := { program := "ytfljmpjckeopgaagreat", sum := "264c3d5aec378ec174ae850722dba99b3b95982e4e858a069d0a4bbda6206712", func := "loop.example/g00594/laws.FnExactDecideCompiled", spec := "fnExactDecideCompiled", unfollowed := true, recurses := true, loops := true, apart := false, narrowed := true }
def FnExactDecideCompiledUptoSaid : Prop := fnExactDecideCompiledUptoRow.holds Tryz.pinned (OpenSpec.upto fnExactDecideCompiledSpec)

/-- 'laws.FnExactDecideBy', WHERE WHAT IT READS IS OF BULK AT MOST 1048576: true; the input reads as it did. -/
def fnExactDecideByUptoRow : OpenClaim := { program := "ytfljmpjckeopgaagreat", sum := "264c3d5aec378ec174ae850722dba99b3b95982e4e858a069d0a4bbda6206712", func := "loop.example/g00594/laws.FnExactDecideBy", spec := "fnExactDecideBy", unfollowed := true, recurses := true, loops := true, apart := false, narrowed := true }
def FnExactDecideByUptoSaid : Prop := fnExactDecideByUptoRow.holds Tryz.pinned (OpenSpec.upto fnExactDecideBySpec)

/-- 'laws.FnExactRulesThatHold', WHERE WHAT IT READS IS OF BULK AT MOST 1048576: true; the input reads as it did. -/
def fnExactRulesThatHoldUptoRow : OpenClaim := { program := "ytfljmpjckeopgaagreat", sum := "264c3d5aec378ec174ae850722dba99b3b95982e4e858a069d0a4bbda6206712", func := "loop.example/g00594/laws.FnExactRulesThatHold", spec := "fnExactRulesThatHold", unfollowed := true, recurses := true, loops := true, apart := false, narrowed := true }
def FnExactRulesThatHoldUptoSaid : Prop := fnExactRulesThatHoldUptoRow.holds Tryz.pinned (OpenSpec.upto fnExactRulesThatHoldSpec)

/-- 'laws.FnExactSuffices', WHERE WHAT IT READS IS OF BULK AT MOST 1048576: true; the input reads as it did. -/
def fnExactSufficesUptoRow : OpenClaim := { program := "ytfljmpjckeopgaagreat", sum := "264c3d5aec378ec174ae850722dba99b3b95982e4e858a069d0a4bbda6206712", func := "loop.example/g00594/laws.FnExactSuffices", spec := "fnExactSuffices", unfollowed := true, recurses := true, loops := true, apart := false, narrowed := true }
def FnExactSufficesUptoSaid : Prop := fnExactSufficesUptoRow.holds Tryz.pinned (OpenSpec.upto fnExactSufficesSpec)

/-- 'laws.FnExactIsNeeded', WHERE WHAT IT READS IS OF BULK AT MOST 1048576: true; the input reads as it did. -/
def fnExactIsNeededUptoRow : OpenClaim := { program := "ytfljmpjckeopgaagreat", sum := "264c3d5aec378ec174ae850722dba99b3b95982e4e858a069d0a4bbda6206712", func := "loop.example/g00594/laws.FnExactIsNeeded", spec := "fnExactIsNeeded", unfollowed := true, recurses := true, loops := true, apart := false, narrowed := true }
def FnExactIsNeededUptoSaid : Prop := fnExactIsNeededUptoRow.holds Tryz.pinned (OpenSpec.upto fnExactIsNeededSpec)

end Rows
end Go.Proofs.YtfljmpjckeopgaaGreat
