/-
  No cell of these rows narrows 'for every input' (looked for: loops, veiled, ifaces, maps, wideKeys, modest, calm, conditions, laid).
  DERIVED. THE GIVEN ROWS OF THIS SEAT. 3 by the template 'for every input the law returns true; each argument reads behind the call as it read before'; 0 by the template 'total and deterministic' (their statements: YtigfcbcnfppmcaaGreatTotals.lean).
  GIVEN WITH THE SEED: the statements are not yours to turn. If you find one false, say at which input.
  Laid BY PROGRAM, IN A SANDBOX (cutbox-rows.mjs): the forced cells as the released guide's own fill.sh prints them over the translation 8cc9b44f41e53b76… (all of the seat's roots in one cut). By AI agents, Wed Nov 11 2026. No macro, syntax, notation, axiom, sorry.
-/
import Derived.Test.YtigfcbcnfppmcaaGreatChecked
import GoSem.Claim
import GoSem.ClaimJoined
import GoSem.ClaimMapViews
import Derived.JoinedTies
import Derived.KernelRfl
namespace Go.Proofs.YtigfcbcnfppmcaaGreat
/- THE CELL 'sum', in the pinned program and in every row, IS THE sha256 OF THE DUMP (.gsa) THAT YtigfcbcnfppmcaaGreatProg.lean LOADS. Nothing in Lean hashes anything: it is a label: what it is worth is what the hold of that sum in a sandbox is worth. -/
noncomputable def Tryz.pinned : Pinned := { name := "ytigfcbcnfppmcaagreat", sum := "8cc9b44f41e53b76b122a1b78773373e0f209b08fd5041ddf149e38d84add702", checked := Tryz.checked }
namespace Rows
def none {H : Type} : Left H := { results := [], args := [] }

/-- 'laws.FnEvaluated': WHATEVER THE INPUT: true; the input reads as it did. -/
def fnEvaluatedSpec : ChangeSpec := { name := "fnEvaluated", fn := fun _ => fun
  | [d] => { results := [.lit (.bool true)], args := [d] }
  | _ => none }
def fnEvaluatedRow : OpenClaim := { program := "ytigfcbcnfppmcaagreat", sum := "8cc9b44f41e53b76b122a1b78773373e0f209b08fd5041ddf149e38d84add702", func := "loop.example/g00594/laws.FnEvaluated", spec := "fnEvaluated", unfollowed := true, recurses := true, apart := false }
def FnEvaluatedSaid : Prop := fnEvaluatedRow.holds Tryz.pinned (OpenSpec.ofChange fnEvaluatedSpec)

/-- ITS FALSE NEIGHBOUR: 'it returns false'. Refute it at one input. -/
def fnEvaluatedWrong : ChangeSpec := { name := "fnEvaluated", fn := fun _ => fun
  | [d] => { results := [.lit (.bool false)], args := [d] }
  | _ => none }
def FnEvaluatedWrongFalsely : Prop := fnEvaluatedRow.holds Tryz.pinned (OpenSpec.ofChange fnEvaluatedWrong)

/-- 'laws.FnDecided': WHATEVER THE INPUT: true; the input reads as it did. -/
def fnDecidedSpec : ChangeSpec := { name := "fnDecided", fn := fun _ => fun
  | [d] => { results := [.lit (.bool true)], args := [d] }
  | _ => none }
def fnDecidedRow : OpenClaim := { program := "ytigfcbcnfppmcaagreat", sum := "8cc9b44f41e53b76b122a1b78773373e0f209b08fd5041ddf149e38d84add702", func := "loop.example/g00594/laws.FnDecided", spec := "fnDecided", unfollowed := true, recurses := true, apart := false }
def FnDecidedSaid : Prop := fnDecidedRow.holds Tryz.pinned (OpenSpec.ofChange fnDecidedSpec)

/-- ITS FALSE NEIGHBOUR: 'it returns false'. Refute it at one input. -/
def fnDecidedWrong : ChangeSpec := { name := "fnDecided", fn := fun _ => fun
  | [d] => { results := [.lit (.bool false)], args := [d] }
  | _ => none }
def FnDecidedWrongFalsely : Prop := fnDecidedRow.holds Tryz.pinned (OpenSpec.ofChange fnDecidedWrong)

/-- 'laws.FnCompiled': WHATEVER THE INPUT: true; the input reads as it did. -/
def fnCompiledSpec : ChangeSpec := { name := "fnCompiled", fn := fun _ => fun
  | [d] => { results := [.lit (.bool true)], args := [d] }
  | _ => none }
def fnCompiledRow : OpenClaim := { program := "ytigfcbcnfppmcaagreat", sum := "8cc9b44f41e53b76b122a1b78773373e0f209b08fd5041ddf149e38d84add702", func := "loop.example/g00594/laws.FnCompiled", spec := "fnCompiled", unfollowed := true, recurses := true, apart := false }
def FnCompiledSaid : Prop := fnCompiledRow.holds Tryz.pinned (OpenSpec.ofChange fnCompiledSpec)

/-- ITS FALSE NEIGHBOUR: 'it returns false'. Refute it at one input. -/
def fnCompiledWrong : ChangeSpec := { name := "fnCompiled", fn := fun _ => fun
  | [d] => { results := [.lit (.bool false)], args := [d] }
  | _ => none }
def FnCompiledWrongFalsely : Prop := fnCompiledRow.holds Tryz.pinned (OpenSpec.ofChange fnCompiledWrong)

/- THE SECOND FORM. 'bulk': how many values and letters a reading holds, each counted each time it is reached (what is shared counts as often as it is met; a slice's spare places count too). A statement '..UptoSaid' is the law's where the arguments, and the package variables that the reading takes, are together of bulk at most 1048576: NARROWER than '..Said'. Prove '..Said' where nothing that the law and all that it calls make is longer than what came in: it says more and counts as full. Else prove '..UptoSaid'. A law counts once. -/
mutual
def uptoBulk {H : Type} : DataW H → Nat
  | .lit (.string bytes) => bytes.length + 1
  | .lit _ => 1
  | .nil => 1
  | .ptr d => uptoBulk d + 1
  | .slice elems spare => uptoBulkAll elems + uptoBulkAll spare + 1
  | .agg parts => uptoBulkAll parts + 1
  | .iface _ d => uptoBulk d + 1
  | .map entries => uptoBulkEntries entries + 1
  | .held _ => 1
def uptoBulkAll {H : Type} : List (DataW H) → Nat
  | [] => 0
  | d :: r => uptoBulk d + uptoBulkAll r
def uptoBulkEntries {H : Type} : List (Lit × DataW H) → Nat
  | [] => 0
  | x :: r => uptoBulkEntry x + uptoBulkEntries r
def uptoBulkEntry {H : Type} : Lit × DataW H → Nat
  | (.string bytes, d) => bytes.length + uptoBulk d + 1
  | (_, d) => uptoBulk d + 1
 end
def uptoSmall : (H : Type) → List (DataW H) → Bool := fun _ ds => decide (uptoBulkAll ds ≤ 1048576)
def OpenSpec.upto (s : _root_.Go.ChangeSpec) : _root_.Go.OpenSpec := { _root_.Go.OpenSpec.ofChange s with cond := some uptoSmall }

/-- 'laws.FnEvaluated', WHERE WHAT IT READS IS OF BULK AT MOST 1048576: true; the input reads as it did. -/
def fnEvaluatedUptoRow : OpenClaim := { program := "ytigfcbcnfppmcaagreat", sum := "8cc9b44f41e53b76b122a1b78773373e0f209b08fd5041ddf149e38d84add702", func := "loop.example/g00594/laws.FnEvaluated", spec := "fnEvaluated", unfollowed := true, recurses := true, apart := false, narrowed := true }
def FnEvaluatedUptoSaid : Prop := fnEvaluatedUptoRow.holds Tryz.pinned (OpenSpec.upto fnEvaluatedSpec)

/-- 'laws.FnDecided', WHERE WHAT IT READS IS OF BULK AT MOST 1048576: true; the input reads as it did. -/
def fnDecidedUptoRow : OpenClaim := { program := "ytigfcbcnfppmcaagreat", sum := "8cc9b44f41e53b76b122a1b78773373e0f209b08fd5041ddf149e38d84add702", func := "loop.example/g00594/laws.FnDecided", spec := "fnDecided", unfollowed := true, recurses := true, apart := false, narrowed := true }
def FnDecidedUptoSaid : Prop := fnDecidedUptoRow.holds Tryz.pinned (OpenSpec.upto fnDecidedSpec)

/-- 'laws.FnCompiled', WHERE WHAT IT READS IS OF BULK AT MOST 1048576: true; the input reads as it did. -/
def fnCompiledUptoRow : OpenClaim := { program := "ytigfcbcnfppmcaagreat", sum := "8cc9b44f41e53b76b122a1b78773373e0f209b08fd5041ddf149e38d84add702", func := "loop.example/g00594/laws.FnCompiled", spec := "fnCompiled", unfollowed := true, recurses := true, apart := false, narrowed := true }
def FnCompiledUptoSaid : Prop := fnCompiledUptoRow.holds Tryz.pinned (OpenSpec.upto fnCompiledSpec)

end Rows
end Go.Proofs.YtigfcbcnfppmcaaGreat
