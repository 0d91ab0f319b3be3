/-
  NARROWER THAN 'FOR EVERY INPUT', by the rows' own cells (each row's printed sentence says how): FnExactIsFor: loops · FnExactMeet: loops · FnExactCountNodes: loops.
  DERIVED. THE GIVEN ROWS OF THIS SEAT. 11 by the template 'for every input the law returns true; each argument reads behind the call as it read before'; 0 by the template 'total and deterministic' (their statements: YtogjbacgkcodmaaTotals.lean).
  GIVEN WITH THE SEED: the statements are not yours to turn. If you find one false, say at which input.
  Laid BY PROGRAM, IN A SANDBOX (cutbox-rows.mjs): the forced cells as the released guide's own fill.sh prints them over the translation ba70b4d6fd5bb486… (all of the seat's roots in one cut). By AI agents, Wed Nov 11 2026. No macro, syntax, notation, axiom, sorry.
-/
import Derived.Test.YtogjbacgkcodmaaChecked
import GoSem.Claim
import GoSem.ClaimJoined
import GoSem.ClaimMapViews
import Derived.JoinedTies
import Derived.KernelRfl
namespace Go.Proofs.Ytogjbacgkcodmaa
/- THE CELL 'sum', in the pinned program and in every row, IS THE sha256 OF THE DUMP (.gsa) THAT YtogjbacgkcodmaaProg.lean LOADS. Nothing in Lean hashes anything: it is a label: what it is worth is what the hold of that sum in a sandbox is worth. -/
noncomputable def Try.pinned : Pinned := { name := "ytogjbacgkcodmaa", sum := "ba70b4d6fd5bb4869838ee67ad68fd2d97d129bfec2320a7d92f89fbada9246c", checked := Try.checked }
namespace Rows
def none {H : Type} : Left H := { results := [], args := [] }

/-- 'laws.FnExactEqualDiagrams': WHATEVER THE INPUT: true; the input reads as it did. -/
def fnExactEqualDiagramsSpec : ChangeSpec := { name := "fnExactEqualDiagrams", fn := fun _ => fun
  | [d1, d2] => { results := [.lit (.bool true)], args := [d1, d2] }
  | _ => none }
def fnExactEqualDiagramsRow : OpenClaim := { program := "ytogjbacgkcodmaa", sum := "ba70b4d6fd5bb4869838ee67ad68fd2d97d129bfec2320a7d92f89fbada9246c", func := "loop.example/g00594/laws.FnExactEqualDiagrams", spec := "fnExactEqualDiagrams", apart := false }
def FnExactEqualDiagramsSaid : Prop := fnExactEqualDiagramsRow.holds Try.pinned (OpenSpec.ofChange fnExactEqualDiagramsSpec)

/-- ITS FALSE NEIGHBOUR: 'it returns false'. Refute it at one input. -/
def fnExactEqualDiagramsWrong : ChangeSpec := { name := "fnExactEqualDiagrams", fn := fun _ => fun
  | [d1, d2] => { results := [.lit (.bool false)], args := [d1, d2] }
  | _ => none }
def FnExactEqualDiagramsWrongFalsely : Prop := fnExactEqualDiagramsRow.holds Try.pinned (OpenSpec.ofChange fnExactEqualDiagramsWrong)

/-- 'laws.FnExactIsFor': WHATEVER THE INPUT: true; the input reads as it did. -/
def fnExactIsForSpec : ChangeSpec := { name := "fnExactIsFor", fn := fun _ => fun
  | [d1, d2, d3] => { results := [.lit (.bool true)], args := [d1, d2, d3] }
  | _ => none }
def fnExactIsForRow : OpenClaim := { program := "ytogjbacgkcodmaa", sum := "ba70b4d6fd5bb4869838ee67ad68fd2d97d129bfec2320a7d92f89fbada9246c", func := "loop.example/g00594/laws.FnExactIsFor", spec := "fnExactIsFor", recurses := true, loops := true, apart := false }
def FnExactIsForSaid : Prop := fnExactIsForRow.holds Try.pinned (OpenSpec.ofChange fnExactIsForSpec)

/-- ITS FALSE NEIGHBOUR: 'it returns false'. Refute it at one input. -/
def fnExactIsForWrong : ChangeSpec := { name := "fnExactIsFor", fn := fun _ => fun
  | [d1, d2, d3] => { results := [.lit (.bool false)], args := [d1, d2, d3] }
  | _ => none }
def FnExactIsForWrongFalsely : Prop := fnExactIsForRow.holds Try.pinned (OpenSpec.ofChange fnExactIsForWrong)

/-- 'laws.FnExactMeet': WHATEVER THE INPUT: true; the input reads as it did. -/
def fnExactMeetSpec : ChangeSpec := { name := "fnExactMeet", fn := fun _ => fun
  | [d1, d2] => { results := [.lit (.bool true)], args := [d1, d2] }
  | _ => none }
def fnExactMeetRow : OpenClaim := { program := "ytogjbacgkcodmaa", sum := "ba70b4d6fd5bb4869838ee67ad68fd2d97d129bfec2320a7d92f89fbada9246c", func := "loop.example/g00594/laws.FnExactMeet", spec := "fnExactMeet", recurses := true, loops := true, apart := false }
def FnExactMeetSaid : Prop := fnExactMeetRow.holds Try.pinned (OpenSpec.ofChange fnExactMeetSpec)

/-- ITS FALSE NEIGHBOUR: 'it returns false'. Refute it at one input. -/
def fnExactMeetWrong : ChangeSpec := { name := "fnExactMeet", fn := fun _ => fun
  | [d1, d2] => { results := [.lit (.bool false)], args := [d1, d2] }
  | _ => none }
def FnExactMeetWrongFalsely : Prop := fnExactMeetRow.holds Try.pinned (OpenSpec.ofChange fnExactMeetWrong)

/-- 'laws.FnExactIsDiagram': WHATEVER THE INPUT: true; the input reads as it did. -/
def fnExactIsDiagramSpec : ChangeSpec := { name := "fnExactIsDiagram", fn := fun _ => fun
  | [d] => { results := [.lit (.bool true)], args := [d] }
  | _ => none }
def fnExactIsDiagramRow : OpenClaim := { program := "ytogjbacgkcodmaa", sum := "ba70b4d6fd5bb4869838ee67ad68fd2d97d129bfec2320a7d92f89fbada9246c", func := "loop.example/g00594/laws.FnExactIsDiagram", spec := "fnExactIsDiagram", apart := false }
def FnExactIsDiagramSaid : Prop := fnExactIsDiagramRow.holds Try.pinned (OpenSpec.ofChange fnExactIsDiagramSpec)

/-- ITS FALSE NEIGHBOUR: 'it returns false'. Refute it at one input. -/
def fnExactIsDiagramWrong : ChangeSpec := { name := "fnExactIsDiagram", fn := fun _ => fun
  | [d] => { results := [.lit (.bool false)], args := [d] }
  | _ => none }
def FnExactIsDiagramWrongFalsely : Prop := fnExactIsDiagramRow.holds Try.pinned (OpenSpec.ofChange fnExactIsDiagramWrong)

/-- 'laws.FnExactCountNodes': WHATEVER THE INPUT: true; the input reads as it did. -/
def fnExactCountNodesSpec : ChangeSpec := { name := "fnExactCountNodes", fn := fun _ => fun
  | [d] => { results := [.lit (.bool true)], args := [d] }
  | _ => none }
def fnExactCountNodesRow : OpenClaim := { program := "ytogjbacgkcodmaa", sum := "ba70b4d6fd5bb4869838ee67ad68fd2d97d129bfec2320a7d92f89fbada9246c", func := "loop.example/g00594/laws.FnExactCountNodes", spec := "fnExactCountNodes", recurses := true, loops := true, apart := false }
def FnExactCountNodesSaid : Prop := fnExactCountNodesRow.holds Try.pinned (OpenSpec.ofChange fnExactCountNodesSpec)

/-- ITS FALSE NEIGHBOUR: 'it returns false'. Refute it at one input. -/
def fnExactCountNodesWrong : ChangeSpec := { name := "fnExactCountNodes", fn := fun _ => fun
  | [d] => { results := [.lit (.bool false)], args := [d] }
  | _ => none }
def FnExactCountNodesWrongFalsely : Prop := fnExactCountNodesRow.holds Try.pinned (OpenSpec.ofChange fnExactCountNodesWrong)

/-- 'laws.FnExactOnlyFacts': WHATEVER THE INPUT: true; the input reads as it did. -/
def fnExactOnlyFactsSpec : ChangeSpec := { name := "fnExactOnlyFacts", fn := fun _ => fun
  | [d1, d2] => { results := [.lit (.bool true)], args := [d1, d2] }
  | _ => none }
def fnExactOnlyFactsRow : OpenClaim := { program := "ytogjbacgkcodmaa", sum := "ba70b4d6fd5bb4869838ee67ad68fd2d97d129bfec2320a7d92f89fbada9246c", func := "loop.example/g00594/laws.FnExactOnlyFacts", spec := "fnExactOnlyFacts", apart := false }
def FnExactOnlyFactsSaid : Prop := fnExactOnlyFactsRow.holds Try.pinned (OpenSpec.ofChange fnExactOnlyFactsSpec)

/-- ITS FALSE NEIGHBOUR: 'it returns false'. Refute it at one input. -/
def fnExactOnlyFactsWrong : ChangeSpec := { name := "fnExactOnlyFacts", fn := fun _ => fun
  | [d1, d2] => { results := [.lit (.bool false)], args := [d1, d2] }
  | _ => none }
def FnExactOnlyFactsWrongFalsely : Prop := fnExactOnlyFactsRow.holds Try.pinned (OpenSpec.ofChange fnExactOnlyFactsWrong)

/-- 'laws.FnExactAnswerOf': WHATEVER THE INPUT: true; the input reads as it did. -/
def fnExactAnswerOfSpec : ChangeSpec := { name := "fnExactAnswerOf", fn := fun _ => fun
  | [d1, d2] => { results := [.lit (.bool true)], args := [d1, d2] }
  | _ => none }
def fnExactAnswerOfRow : OpenClaim := { program := "ytogjbacgkcodmaa", sum := "ba70b4d6fd5bb4869838ee67ad68fd2d97d129bfec2320a7d92f89fbada9246c", func := "loop.example/g00594/laws.FnExactAnswerOf", spec := "fnExactAnswerOf", apart := false }
def FnExactAnswerOfSaid : Prop := fnExactAnswerOfRow.holds Try.pinned (OpenSpec.ofChange fnExactAnswerOfSpec)

/-- ITS FALSE NEIGHBOUR: 'it returns false'. Refute it at one input. -/
def fnExactAnswerOfWrong : ChangeSpec := { name := "fnExactAnswerOf", fn := fun _ => fun
  | [d1, d2] => { results := [.lit (.bool false)], args := [d1, d2] }
  | _ => none }
def FnExactAnswerOfWrongFalsely : Prop := fnExactAnswerOfRow.holds Try.pinned (OpenSpec.ofChange fnExactAnswerOfWrong)

/-- 'laws.FnExactFromTable': WHATEVER THE INPUT: true; the input reads as it did. -/
def fnExactFromTableSpec : ChangeSpec := { name := "fnExactFromTable", fn := fun _ => fun
  | [d1, d2] => { results := [.lit (.bool true)], args := [d1, d2] }
  | _ => none }
def fnExactFromTableRow : OpenClaim := { program := "ytogjbacgkcodmaa", sum := "ba70b4d6fd5bb4869838ee67ad68fd2d97d129bfec2320a7d92f89fbada9246c", func := "loop.example/g00594/laws.FnExactFromTable", spec := "fnExactFromTable", recurses := true, apart := false }
def FnExactFromTableSaid : Prop := fnExactFromTableRow.holds Try.pinned (OpenSpec.ofChange fnExactFromTableSpec)

/-- ITS FALSE NEIGHBOUR: 'it returns false'. Refute it at one input. -/
def fnExactFromTableWrong : ChangeSpec := { name := "fnExactFromTable", fn := fun _ => fun
  | [d1, d2] => { results := [.lit (.bool false)], args := [d1, d2] }
  | _ => none }
def FnExactFromTableWrongFalsely : Prop := fnExactFromTableRow.holds Try.pinned (OpenSpec.ofChange fnExactFromTableWrong)

/-- 'laws.FnExactTableOf': WHATEVER THE INPUT: true; the input reads as it did. -/
def fnExactTableOfSpec : ChangeSpec := { name := "fnExactTableOf", fn := fun _ => fun
  | [d] => { results := [.lit (.bool true)], args := [d] }
  | _ => none }
def fnExactTableOfRow : OpenClaim := { program := "ytogjbacgkcodmaa", sum := "ba70b4d6fd5bb4869838ee67ad68fd2d97d129bfec2320a7d92f89fbada9246c", func := "loop.example/g00594/laws.FnExactTableOf", spec := "fnExactTableOf", apart := false }
def FnExactTableOfSaid : Prop := fnExactTableOfRow.holds Try.pinned (OpenSpec.ofChange fnExactTableOfSpec)

/-- ITS FALSE NEIGHBOUR: 'it returns false'. Refute it at one input. -/
def fnExactTableOfWrong : ChangeSpec := { name := "fnExactTableOf", fn := fun _ => fun
  | [d] => { results := [.lit (.bool false)], args := [d] }
  | _ => none }
def FnExactTableOfWrongFalsely : Prop := fnExactTableOfRow.holds Try.pinned (OpenSpec.ofChange fnExactTableOfWrong)

/-- 'laws.FnExactDependsOn': WHATEVER THE INPUT: true; the input reads as it did. -/
def fnExactDependsOnSpec : ChangeSpec := { name := "fnExactDependsOn", fn := fun _ => fun
  | [d] => { results := [.lit (.bool true)], args := [d] }
  | _ => none }
def fnExactDependsOnRow : OpenClaim := { program := "ytogjbacgkcodmaa", sum := "ba70b4d6fd5bb4869838ee67ad68fd2d97d129bfec2320a7d92f89fbada9246c", func := "loop.example/g00594/laws.FnExactDependsOn", spec := "fnExactDependsOn", recurses := true, apart := false }
def FnExactDependsOnSaid : Prop := fnExactDependsOnRow.holds Try.pinned (OpenSpec.ofChange fnExactDependsOnSpec)

/-- ITS FALSE NEIGHBOUR: 'it returns false'. Refute it at one input. -/
def fnExactDependsOnWrong : ChangeSpec := { name := "fnExactDependsOn", fn := fun _ => fun
  | [d] => { results := [.lit (.bool false)], args := [d] }
  | _ => none }
def FnExactDependsOnWrongFalsely : Prop := fnExactDependsOnRow.holds Try.pinned (OpenSpec.ofChange fnExactDependsOnWrong)

/-- 'laws.FnDiagrams': WHATEVER THE INPUT: true; the input reads as it did. -/
def fnDiagramsSpec : ChangeSpec := { name := "fnDiagrams", fn := fun _ => fun
  | [d] => { results := [.lit (.bool true)], args := [d] }
  | _ => none }
def fnDiagramsRow : OpenClaim := { program := "ytogjbacgkcodmaa", sum := "ba70b4d6fd5bb4869838ee67ad68fd2d97d129bfec2320a7d92f89fbada9246c", func := "loop.example/g00594/laws.FnDiagrams", spec := "fnDiagrams", recurses := true, apart := false }
def FnDiagramsSaid : Prop := fnDiagramsRow.holds Try.pinned (OpenSpec.ofChange fnDiagramsSpec)

/-- ITS FALSE NEIGHBOUR: 'it returns false'. Refute it at one input. -/
def fnDiagramsWrong : ChangeSpec := { name := "fnDiagrams", fn := fun _ => fun
  | [d] => { results := [.lit (.bool false)], args := [d] }
  | _ => none }
def FnDiagramsWrongFalsely : Prop := fnDiagramsRow.holds Try.pinned (OpenSpec.ofChange fnDiagramsWrong)

/- THE SECOND FORM. 'bulk': how many values and letters a reading holds, each counted each time it is reached (what is shared counts as often as it is met; a slice's spare places count too). A statement '..UptoSaid' is the law's where the arguments, and the package variables that the reading takes, are together of bulk at most 1048576: NARROWER than '..Said'. Prove '..Said' where nothing that the law and all that it calls make is longer than what came in: it says more and counts as full. Else prove '..UptoSaid'. A law counts once. -/
mutual
def uptoBulk {H : Type} : DataW H → Nat
  | .lit (.string bytes) => bytes.length + 1
  | .lit _ => 1
  | .nil => 1
  | .ptr d => uptoBulk d + 1
  | .slice elems spare => uptoBulkAll elems + uptoBulkAll spare + 1
  | .agg parts => uptoBulkAll parts + 1
  | .iface _ d => uptoBulk d + 1
  | .map entries => uptoBulkEntries entries + 1
  | .held _ => 1
def uptoBulkAll {H : Type} : List (DataW H) → Nat
  | [] => 0
  | d :: r => uptoBulk d + uptoBulkAll r
def uptoBulkEntries {H : Type} : List (Lit × DataW H) → Nat
  | [] => 0
  | x :: r => uptoBulkEntry x + uptoBulkEntries r
def uptoBulkEntry {H : Type} : Lit × DataW H → Nat
  | (.string bytes, d) => bytes.length + uptoBulk d + 1
  | (_, d) => uptoBulk d + 1
 end
def uptoSmall : (H : Type) → List (DataW H) → Bool := fun _ ds => decide (uptoBulkAll ds ≤ 1048576)
def OpenSpec.upto (s : _root_.Go.ChangeSpec) : _root_.Go.OpenSpec := { _root_.Go.OpenSpec.ofChange s with cond := some uptoSmall }

/-- 'laws.FnExactEqualDiagrams', WHERE WHAT IT READS IS OF BULK AT MOST 1048576: true; the input reads as it did. -/
def fnExactEqualDiagramsUptoRow : OpenClaim := { program := "ytogjbacgkcodmaa", sum := "ba70b4d6fd5bb4869838ee67ad68fd2d97d129bfec2320a7d92f89fbada9246c", func := "loop.example/g00594/laws.FnExactEqualDiagrams", spec := "fnExactEqualDiagrams", apart := false, narrowed := true }
def FnExactEqualDiagramsUptoSaid : Prop := fnExactEqualDiagramsUptoRow.holds Try.pinned (OpenSpec.upto fnExactEqualDiagramsSpec)

/-- 'laws.FnExactIsFor', WHERE WHAT IT READS IS OF BULK AT MOST 1048576: true; the input reads as it did. -/
def fnExactIsForUptoRow : OpenClaim := { program := "ytogjbacgkcodmaa", sum := "ba70b4d6fd5bb4869838ee67ad68fd2d97d129bfec2320a7d92f89fbada9246c", func := "loop.example/g00594/laws.FnExactIsFor", spec := "fnExactIsFor", recurses := true, loops := true, apart := false, narrowed := true }
def FnExactIsForUptoSaid : Prop := fnExactIsForUptoRow.holds Try.pinned (OpenSpec.upto fnExactIsForSpec)

/-- 'laws.FnExactMeet', WHERE WHAT IT READS IS OF BULK AT MOST 1048576: true; the input reads as it did. -/
def fnExactMeetUptoRow : OpenClaim := { program := "ytogjbacgkcodmaa", sum := "ba70b4d6fd5bb4869838ee67ad68fd2d97d129bfec2320a7d92f89fbada9246c", func := "loop.example/g00594/laws.FnExactMeet", spec := "fnExactMeet", recurses := true, loops := true, apart := false, narrowed := true }
def FnExactMeetUptoSaid : Prop := fnExactMeetUptoRow.holds Try.pinned (OpenSpec.upto fnExactMeetSpec)

/-- 'laws.FnExactIsDiagram', WHERE WHAT IT READS IS OF BULK AT MOST 1048576: true; the input reads as it did. -/
def fnExactIsDiagramUptoRow : OpenClaim := { program := "ytogjbacgkcodmaa", sum := "ba70b4d6fd5bb4869838ee67ad68fd2d97d129bfec2320a7d92f89fbada9246c", func := "loop.example/g00594/laws.FnExactIsDiagram", spec := "fnExactIsDiagram", apart := false, narrowed := true }
def FnExactIsDiagramUptoSaid : Prop := fnExactIsDiagramUptoRow.holds Try.pinned (OpenSpec.upto fnExactIsDiagramSpec)

/-- 'laws.FnExactCountNodes', WHERE WHAT IT READS IS OF BULK AT MOST 1048576: true; the input reads as it did. -/
def fnExactCountNodesUptoRow : OpenClaim := { program := "ytogjbacgkcodmaa", sum := "ba70b4d6fd5bb4869838ee67ad68fd2d97d129bfec2320a7d92f89fbada9246c", func := "loop.example/g00594/laws.FnExactCountNodes", spec := "fnExactCountNodes", recurses := true, loops := true, apart := false, narrowed := true }
def FnExactCountNodesUptoSaid : Prop := fnExactCountNodesUptoRow.holds Try.pinned (OpenSpec.upto fnExactCountNodesSpec)

/-- 'laws.FnExactOnlyFacts', WHERE WHAT IT READS IS OF BULK AT MOST 1048576: true; the input reads as it did. -/
def fnExactOnlyFactsUptoRow : OpenClaim := { program := "ytogjbacgkcodmaa", sum := "ba70b4d6fd5bb4869838ee67ad68fd2d97d129bfec2320a7d92f89fbada9246c", func := "loop.example/g00594/laws.FnExactOnlyFacts", spec := "fnExactOnlyFacts", apart := false, narrowed := true }
def FnExactOnlyFactsUptoSaid : Prop := fnExactOnlyFactsUptoRow.holds Try.pinned (OpenSpec.upto fnExactOnlyFactsSpec)

/-- 'laws.FnExactAnswerOf', WHERE WHAT IT READS IS OF BULK AT MOST 1048576: true; the input reads as it did. -/
def fnExactAnswerOfUptoRow : OpenClaim := { program := "ytogjbacgkcodmaa", sum := "ba70b4d6fd5bb4869838ee67ad68fd2d97d129bfec2320a7d92f89fbada9246c", func := "loop.example/g00594/laws.FnExactAnswerOf", spec := "fnExactAnswerOf", apart := false, narrowed := true }
def FnExactAnswerOfUptoSaid : Prop := fnExactAnswerOfUptoRow.holds Try.pinned (OpenSpec.upto fnExactAnswerOfSpec)

/-- 'laws.FnExactFromTable', WHERE WHAT IT READS IS OF BULK AT MOST 1048576: true; the input reads as it did. -/
def fnExactFromTableUptoRow : OpenClaim := { program := "ytogjbacgkcodmaa", sum := "ba70b4d6fd5bb4869838ee67ad68fd2d97d129bfec2320a7d92f89fbada9246c", func := "loop.example/g00594/laws.FnExactFromTable", spec := "fnExactFromTable", recurses := true, apart := false, narrowed := true }
def FnExactFromTableUptoSaid : Prop := fnExactFromTableUptoRow.holds Try.pinned (OpenSpec.upto fnExactFromTableSpec)

/-- 'laws.FnExactTableOf', WHERE WHAT IT READS IS OF BULK AT MOST 1048576: true; the input reads as it did. -/
def fnExactTableOfUptoRow : OpenClaim := { program := "ytogjbacgkcodmaa", sum := "ba70b4d6fd5bb4869838ee67ad68fd2d97d129bfec2320a7d92f89fbada9246c", func := "loop.example/g00594/laws.FnExactTableOf", spec := "fnExactTableOf", apart := false, narrowed := true }
def FnExactTableOfUptoSaid : Prop := fnExactTableOfUptoRow.holds Try.pinned (OpenSpec.upto fnExactTableOfSpec)

/-- 'laws.FnExactDependsOn', WHERE WHAT IT READS IS OF BULK AT MOST 1048576: true; the input reads as it did. -/
def fnExactDependsOnUptoRow : OpenClaim := { program := "ytogjbacgkcodmaa", sum := "ba70b4d6fd5bb4869838ee67ad68fd2d97d129bfec2320a7d92f89fbada9246c", func := "loop.example/g00594/laws.FnExactDependsOn", spec := "fnExactDependsOn", recurses := true, apart := false, narrowed := true }
def FnExactDependsOnUptoSaid : Prop := fnExactDependsOnUptoRow.holds Try.pinned (OpenSpec.upto fnExactDependsOnSpec)

/-- 'laws.FnDiagrams', WHERE WHAT IT READS IS OF BULK AT MOST 1048576: true; the input reads as it did. -/
def fnDiagramsUptoRow : OpenClaim := { program := "ytogjbacgkcodmaa", sum := "ba70b4d6fd5bb4869838ee67ad68fd2d97d129bfec2320a7d92f89fbada9246c", func := "loop.example/g00594/laws.FnDiagrams", spec := "fnDiagrams", recurses := true, apart := false, narrowed := true }
def FnDiagramsUptoSaid : Prop := fnDiagramsUptoRow.holds Try.pinned (OpenSpec.upto fnDiagramsSpec)

end Rows
end Go.Proofs.Ytogjbacgkcodmaa
