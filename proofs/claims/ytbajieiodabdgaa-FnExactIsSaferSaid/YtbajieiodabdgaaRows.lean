/-
  NARROWER THAN 'FOR EVERY INPUT', by the rows' own cells (each row's printed sentence says how): FnExactWithoutRule: loops · FnExactAtomsFor: loops · FnExactCanBothHold: loops · FnExactUsedFacts: loops · FnExactConflictsIn: loops · FnExactIsIdle: loops · FnExactIsSafer: loops · FnExactCompileFor: loops.
  DERIVED. THE GIVEN ROWS OF THIS SEAT. 8 by the template 'for every input the law returns true; each argument reads behind the call as it read before'; 0 by the template 'total and deterministic' (their statements: YtbajieiodabdgaaTotals.lean).
  GIVEN WITH THE SEED: the statements are not yours to turn. If you find one false, say at which input.
  Laid BY PROGRAM, IN A SANDBOX (cutbox-rows.mjs): the forced cells as the released guide's own fill.sh prints them over the translation 14220dd2c611aba1… (all of the seat's roots in one cut). By AI agents, Wed Nov 11 2026. No macro, syntax, notation, axiom, sorry.
-/
import Derived.Test.YtbajieiodabdgaaChecked
import GoSem.Claim
import GoSem.ClaimJoined
import GoSem.ClaimMapViews
import Derived.JoinedTies
import Derived.KernelRfl
namespace Go.Proofs.Ytbajieiodabdgaa
/- THE CELL 'sum', in the pinned program and in every row, IS THE sha256 OF THE DUMP (.gsa) THAT YtbajieiodabdgaaProg.lean LOADS. Nothing in Lean hashes anything: it is a label: what it is worth is what the hold of that sum in a sandbox is worth. -/
noncomputable def Try.pinned : Pinned := { name := "ytbajieiodabdgaa", sum := "14220dd2c611aba1aa57f488c2ae8ffcc898e344e9b1a30febb777cea539e637", checked := Try.checked }
namespace Rows
def none {H : Type} : Left H := { results := [], args := [] }

/-- 'laws.FnExactWithoutRule': WHATEVER THE INPUT: true; the input reads as it did. -/
def fnExactWithoutRuleSpec : ChangeSpec := { name := "fnExactWithoutRule", fn := fun _ => fun
  | [d1, d2] => { results := [.lit (.bool true)], args := [d1, d2] }
  | _ => none }
def fnExactWithoutRuleRow : OpenClaim := { program := "ytbajieiodabdgaa", sum := "14220dd2c611aba1aa57f488c2ae8ffcc898e344e9b1a30febb777cea539e637", func := "loop.example/g00594/laws.FnExactWithoutRule", spec := "fnExactWithoutRule", recurses := true, loops := true, apart := false }
def FnExactWithoutRuleSaid : Prop := fnExactWithoutRuleRow.holds Try.pinned (OpenSpec.ofChange fnExactWithoutRuleSpec)

/-- ITS FALSE NEIGHBOUR: 'it returns false'. Refute it at one input. -/
def fnExactWithoutRuleWrong : ChangeSpec := { name := "fnExactWithoutRule", fn := fun _ => fun
  | [d1, d2] => { results := [.lit (.bool false)], args := [d1, d2] }
  | _ => none }
def FnExactWithoutRuleWrongFalsely : Prop := fnExactWithoutRuleRow.holds Try.pinned (OpenSpec.ofChange fnExactWithoutRuleWrong)

/-- 'laws.FnExactAtomsFor': WHATEVER THE INPUT: true; the input reads as it did. -/
def fnExactAtomsForSpec : ChangeSpec := { name := "fnExactAtomsFor", fn := fun _ => fun
  | [d1, d2, d3] => { results := [.lit (.bool true)], args := [d1, d2, d3] }
  | _ => none }
def fnExactAtomsForRow : OpenClaim := { program := "ytbajieiodabdgaa", sum := "14220dd2c611aba1aa57f488c2ae8ffcc898e344e9b1a30febb777cea539e637", func := "loop.example/g00594/laws.FnExactAtomsFor", spec := "fnExactAtomsFor", unfollowed := true, recurses := true, loops := true, apart := false }
def FnExactAtomsForSaid : Prop := fnExactAtomsForRow.holds Try.pinned (OpenSpec.ofChange fnExactAtomsForSpec)

/-- ITS FALSE NEIGHBOUR: 'it returns false'. Refute it at one input. -/
def fnExactAtomsForWrong : ChangeSpec := { name := "fnExactAtomsFor", fn := fun _ => fun
  | [d1, d2, d3] => { results := [.lit (.bool false)], args := [d1, d2, d3] }
  | _ => none }
def FnExactAtomsForWrongFalsely : Prop := fnExactAtomsForRow.holds Try.pinned (OpenSpec.ofChange fnExactAtomsForWrong)

/-- 'laws.FnExactCanBothHold': WHATEVER THE INPUT: true; the input reads as it did. -/
def fnExactCanBothHoldSpec : ChangeSpec := { name := "fnExactCanBothHold", fn := fun _ => fun
  | [d1, d2] => { results := [.lit (.bool true)], args := [d1, d2] }
  | _ => none }
def fnExactCanBothHoldRow : OpenClaim := { program := "ytbajieiodabdgaa", sum := "14220dd2c611aba1aa57f488c2ae8ffcc898e344e9b1a30febb777cea539e637", func := "loop.example/g00594/laws.FnExactCanBothHold", spec := "fnExactCanBothHold", unfollowed := true, recurses := true, loops := true, apart := false }
def FnExactCanBothHoldSaid : Prop := fnExactCanBothHoldRow.holds Try.pinned (OpenSpec.ofChange fnExactCanBothHoldSpec)

/-- ITS FALSE NEIGHBOUR: 'it returns false'. Refute it at one input. -/
def fnExactCanBothHoldWrong : ChangeSpec := { name := "fnExactCanBothHold", fn := fun _ => fun
  | [d1, d2] => { results := [.lit (.bool false)], args := [d1, d2] }
  | _ => none }
def FnExactCanBothHoldWrongFalsely : Prop := fnExactCanBothHoldRow.holds Try.pinned (OpenSpec.ofChange fnExactCanBothHoldWrong)

/-- 'laws.FnExactUsedFacts': WHATEVER THE INPUT: true; the input reads as it did. -/
def fnExactUsedFactsSpec : ChangeSpec := { name := "fnExactUsedFacts", fn := fun _ => fun
  | [d1, d2, d3, d4] => { results := [.lit (.bool true)], args := [d1, d2, d3, d4] }
  | _ => none }
def fnExactUsedFactsRow : OpenClaim := { program := "ytbajieiodabdgaa", sum := "14220dd2c611aba1aa57f488c2ae8ffcc898e344e9b1a30febb777cea539e637", func := "loop.example/g00594/laws.FnExactUsedFacts", spec := "fnExactUsedFacts", unfollowed := true, recurses := true, loops := true, apart := false }
def FnExactUsedFactsSaid : Prop := fnExactUsedFactsRow.holds Try.pinned (OpenSpec.ofChange fnExactUsedFactsSpec)

/-- ITS FALSE NEIGHBOUR: 'it returns false'. Refute it at one input. -/
def fnExactUsedFactsWrong : ChangeSpec := { name := "fnExactUsedFacts", fn := fun _ => fun
  | [d1, d2, d3, d4] => { results := [.lit (.bool false)], args := [d1, d2, d3, d4] }
  | _ => none }
def FnExactUsedFactsWrongFalsely : Prop := fnExactUsedFactsRow.holds Try.pinned (OpenSpec.ofChange fnExactUsedFactsWrong)

/-- 'laws.FnExactConflictsIn': WHATEVER THE INPUT: true; the input reads as it did. -/
def fnExactConflictsInSpec : ChangeSpec := { name := "fnExactConflictsIn", fn := fun _ => fun
  | [d] => { results := [.lit (.bool true)], args := [d] }
  | _ => none }
def fnExactConflictsInRow : OpenClaim := { program := "ytbajieiodabdgaa", sum := "14220dd2c611aba1aa57f488c2ae8ffcc898e344e9b1a30febb777cea539e637", func := "loop.example/g00594/laws.FnExactConflictsIn", spec := "fnExactConflictsIn", unfollowed := true, recurses := true, loops := true, apart := false }
def FnExactConflictsInSaid : Prop := fnExactConflictsInRow.holds Try.pinned (OpenSpec.ofChange fnExactConflictsInSpec)

/-- ITS FALSE NEIGHBOUR: 'it returns false'. Refute it at one input. -/
def fnExactConflictsInWrong : ChangeSpec := { name := "fnExactConflictsIn", fn := fun _ => fun
  | [d] => { results := [.lit (.bool false)], args := [d] }
  | _ => none }
def FnExactConflictsInWrongFalsely : Prop := fnExactConflictsInRow.holds Try.pinned (OpenSpec.ofChange fnExactConflictsInWrong)

/-- 'laws.FnExactIsIdle': WHATEVER THE INPUT: true; the input reads as it did. -/
def fnExactIsIdleSpec : ChangeSpec := { name := "fnExactIsIdle", fn := fun _ => fun
  | [d1, d2] => { results := [.lit (.bool true)], args := [d1, d2] }
  | _ => none }
def fnExactIsIdleRow : OpenClaim := { program := "ytbajieiodabdgaa", sum := "14220dd2c611aba1aa57f488c2ae8ffcc898e344e9b1a30febb777cea539e637", func := "loop.example/g00594/laws.FnExactIsIdle", spec := "fnExactIsIdle", unfollowed := true, recurses := true, loops := true, apart := false }
def FnExactIsIdleSaid : Prop := fnExactIsIdleRow.holds Try.pinned (OpenSpec.ofChange fnExactIsIdleSpec)

/-- ITS FALSE NEIGHBOUR: 'it returns false'. Refute it at one input. -/
def fnExactIsIdleWrong : ChangeSpec := { name := "fnExactIsIdle", fn := fun _ => fun
  | [d1, d2] => { results := [.lit (.bool false)], args := [d1, d2] }
  | _ => none }
def FnExactIsIdleWrongFalsely : Prop := fnExactIsIdleRow.holds Try.pinned (OpenSpec.ofChange fnExactIsIdleWrong)

/-- 'laws.FnExactIsSafer': WHATEVER THE INPUT: true; the input reads as it did. -/
def fnExactIsSaferSpec : ChangeSpec := { name := "fnExactIsSafer", fn := fun _ => fun
  | [d1, d2, d3, d4] => { results := [.lit (.bool true)], args := [d1, d2, d3, d4] }
  | _ => none }
def fnExactIsSaferRow : OpenClaim := { program := "ytbajieiodabdgaa", sum := "14220dd2c611aba1aa57f488c2ae8ffcc898e344e9b1a30febb777cea539e637", func := "loop.example/g00594/laws.FnExactIsSafer", spec := "fnExactIsSafer", unfollowed := true, recurses := true, loops := true, apart := false }
def FnExactIsSaferSaid : Prop := fnExactIsSaferRow.holds Try.pinned (OpenSpec.ofChange fnExactIsSaferSpec)

/-- ITS FALSE NEIGHBOUR: 'it returns false'. Refute it at one input. -/
def fnExactIsSaferWrong : ChangeSpec := { name := "fnExactIsSafer", fn := fun _ => fun
  | [d1, d2, d3, d4] => { results := [.lit (.bool false)], args := [d1, d2, d3, d4] }
  | _ => none }
def FnExactIsSaferWrongFalsely : Prop := fnExactIsSaferRow.holds Try.pinned (OpenSpec.ofChange fnExactIsSaferWrong)

/-- 'laws.FnExactCompileFor': WHATEVER THE INPUT: true; the input reads as it did. -/
def fnExactCompileForSpec : ChangeSpec := { name := "fnExactCompileFor", fn := fun _ => fun
  | [d1, d2, d3] => { results := [.lit (.bool true)], args := [d1, d2, d3] }
  | _ => none }
def fnExactCompileForRow : OpenClaim := { program := "ytbajieiodabdgaa", sum := "14220dd2c611aba1aa57f488c2ae8ffcc898e344e9b1a30febb777cea539e637", func := "loop.example/g00594/laws.FnExactCompileFor", spec := "fnExactCompileFor", unfollowed := true, recurses := true, loops := true, apart := false }
def FnExactCompileForSaid : Prop := fnExactCompileForRow.holds Try.pinned (OpenSpec.ofChange fnExactCompileForSpec)

/-- ITS FALSE NEIGHBOUR: 'it returns false'. Refute it at one input. -/
def fnExactCompileForWrong : ChangeSpec := { name := "fnExactCompileFor", fn := fun _ => fun
  | [d1, d2, d3] => { results := [.lit (.bool false)], args := [d1, d2, d3] }
  | _ => none }
def FnExactCompileForWrongFalsely : Prop := fnExactCompileForRow.holds Try.pinned (OpenSpec.ofChange fnExactCompileForWrong)

/- THE SECOND FORM. 'bulk': how many values and letters a reading holds, each counted each time it is reached (what is shared counts as often as it is met; a slice's spare places count too). A statement '..UptoSaid' is the law's where the arguments, and the package variables that the reading takes, are together of bulk at most 1048576: NARROWER than '..Said'. Prove '..Said' where nothing that the law and all that it calls make is longer than what came in: it says more and counts as full. Else prove '..UptoSaid'. A law counts once. -/
mutual
def uptoBulk {H : Type} : DataW H → Nat
  | .lit (.string bytes) => bytes.length + 1
  | .lit _ => 1
  | .nil => 1
  | .ptr d => uptoBulk d + 1
  | .slice elems spare => uptoBulkAll elems + uptoBulkAll spare + 1
  | .agg parts => uptoBulkAll parts + 1
  | .iface _ d => uptoBulk d + 1
  | .map entries => uptoBulkEntries entries + 1
  | .held _ => 1
def uptoBulkAll {H : Type} : List (DataW H) → Nat
  | [] => 0
  | d :: r => uptoBulk d + uptoBulkAll r
def uptoBulkEntries {H : Type} : List (Lit × DataW H) → Nat
  | [] => 0
  | x :: r => uptoBulkEntry x + uptoBulkEntries r
def uptoBulkEntry {H : Type} : Lit × DataW H → Nat
  | (.string bytes, d) => bytes.length + uptoBulk d + 1
  | (_, d) => uptoBulk d + 1
 end
def uptoSmall : (H : Type) → List (DataW H) → Bool := fun _ ds => decide (uptoBulkAll ds ≤ 1048576)
def OpenSpec.upto (s : _root_.Go.ChangeSpec) : _root_.Go.OpenSpec := { _root_.Go.OpenSpec.ofChange s with cond := some uptoSmall }

/-- 'laws.FnExactWithoutRule', WHERE WHAT IT READS IS OF BULK AT MOST 1048576: true; the input reads as it did. -/
def fnExactWithoutRuleUptoRow : OpenClaim := { program := "ytbajieiodabdgaa", sum := "14220dd2c611aba1aa57f488c2ae8ffcc898e344e9b1a30febb777cea539e637", func := "loop.example/g00594/laws.FnExactWithoutRule", spec := "fnExactWithoutRule", recurses := true, loops := true, apart := false, narrowed := true }
def FnExactWithoutRuleUptoSaid : Prop := fnExactWithoutRuleUptoRow.holds Try.pinned (OpenSpec.upto fnExactWithoutRuleSpec)

/-- 'laws.FnExactAtomsFor', WHERE WHAT IT READS IS OF BULK AT MOST 1048576: true; the input reads as it did. -/
def fnExactAtomsForUptoRow : OpenClaim := { program := "ytbajieiodabdgaa", sum := "14220dd2c611aba1aa57f488c2ae8ffcc898e344e9b1a30febb777cea539e637", func := "loop.example/g00594/laws.FnExactAtomsFor", spec := "fnExactAtomsFor", unfollowed := true, recurses := true, loops := true, apart := false, narrowed := true }
def FnExactAtomsForUptoSaid : Prop := fnExactAtomsForUptoRow.holds Try.pinned (OpenSpec.upto fnExactAtomsForSpec)

/-- 'laws.FnExactCanBothHold', WHERE WHAT IT READS IS OF BULK AT MOST 1048576: true; the input reads as it did. -/
def fnExactCanBothHoldUptoRow : OpenClaim := { program := "ytbajieiodabdgaa", sum := "14220dd2c611aba1aa57f488c2ae8ffcc898e344e9b1a30febb777cea539e637", func := "loop.example/g00594/laws.FnExactCanBothHold", spec := "fnExactCanBothHold", unfollowed := true, recurses := true, loops := true, apart := false, narrowed := true }
def FnExactCanBothHoldUptoSaid : Prop := fnExactCanBothHoldUptoRow.holds Try.pinned (OpenSpec.upto fnExactCanBothHoldSpec)

/-- 'laws.FnExactUsedFacts', WHERE WHAT IT READS IS OF BULK AT MOST 1048576: true; the input reads as it did. -/
def fnExactUsedFactsUptoRow : OpenClaim := { program := "ytbajieiodabdgaa", sum := "14220dd2c611aba1aa57f488c2ae8ffcc898e344e9b1a30febb777cea539e637", func := "loop.example/g00594/laws.FnExactUsedFacts", spec := "fnExactUsedFacts", unfollowed := true, recurses := true, loops := true, apart := false, narrowed := true }
def FnExactUsedFactsUptoSaid : Prop := fnExactUsedFactsUptoRow.holds Try.pinned (OpenSpec.upto fnExactUsedFactsSpec)

/-- 'laws.FnExactConflictsIn', WHERE WHAT IT READS IS OF BULK AT MOST 1048576: true; the input reads as it did. -/
def fnExactConflictsInUptoRow : OpenClaim := { program := "ytbajieiodabdgaa", sum := "14220dd2c611aba1aa57f488c2ae8ffcc898e344e9b1a30febb777cea539e637", func := "loop.example/g00594/laws.FnExactConflictsIn", spec := "fnExactConflictsIn", unfollowed := true, recurses := true, loops := true, apart := false, narrowed := true }
def FnExactConflictsInUptoSaid : Prop := fnExactConflictsInUptoRow.holds Try.pinned (OpenSpec.upto fnExactConflictsInSpec)

/-- 'laws.FnExactIsIdle', WHERE WHAT IT READS IS OF BULK AT MOST 1048576: true; the input reads as it did. -/
def fnExactIsIdleUptoRow : OpenClaim := { program := "ytbajieiodabdgaa", sum := "14220dd2c611aba1aa57f488c2ae8ffcc898e344e9b1a30febb777cea539e637", func := "loop.example/g00594/laws.FnExactIsIdle", spec := "fnExactIsIdle", unfollowed := true, recurses := true, loops := true, apart := false, narrowed := true }
def FnExactIsIdleUptoSaid : Prop := fnExactIsIdleUptoRow.holds Try.pinned (OpenSpec.upto fnExactIsIdleSpec)

/-- 'laws.FnExactIsSafer', WHERE WHAT IT READS IS OF BULK AT MOST 1048576: true; the input reads as it did. -/
def fnExactIsSaferUptoRow : OpenClaim := { program := "ytbajieiodabdgaa", sum := "14220dd2c611aba1aa57f488c2ae8ffcc898e344e9b1a30febb777cea539e637", func := "loop.example/g00594/laws.FnExactIsSafer", spec := "fnExactIsSafer", unfollowed := true, recurses := true, loops := true, apart := false, narrowed := true }
def FnExactIsSaferUptoSaid : Prop := fnExactIsSaferUptoRow.holds Try.pinned (OpenSpec.upto fnExactIsSaferSpec)

/-- 'laws.FnExactCompileFor', WHERE WHAT IT READS IS OF BULK AT MOST 1048576: true; the input reads as it did. -/
def fnExactCompileForUptoRow : OpenClaim := { program := "ytbajieiodabdgaa", sum := "14220dd2c611aba1aa57f488c2ae8ffcc898e344e9b1a30febb777cea539e637", func := "loop.example/g00594/laws.FnExactCompileFor", spec := "fnExactCompileFor", unfollowed := true, recurses := true, loops := true, apart := false, narrowed := true }
def FnExactCompileForUptoSaid : Prop := fnExactCompileForUptoRow.holds Try.pinned (OpenSpec.upto fnExactCompileForSpec)

end Rows
end Go.Proofs.Ytbajieiodabdgaa
