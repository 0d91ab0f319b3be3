/-
  No cell of these rows narrows 'for every input' (looked for: loops, veiled, ifaces, maps, wideKeys, modest, calm, conditions, laid).
  DERIVED. THE GIVEN ROWS OF THIS SEAT. 6 by the template 'for every input the law returns true; each argument reads behind the call as it read before'; 0 by the template 'total and deterministic' (their statements: YtgckhjcfcandmaaTotals.lean).
  GIVEN WITH THE SEED: the statements are not yours to turn. If you find one false, say at which input.
  Laid BY PROGRAM, IN A SANDBOX (cutbox-rows.mjs): the forced cells as the released guide's own fill.sh prints them over the translation 96cb6a42681fab64… (all of the seat's roots in one cut). By AI agents, Wed Nov 11 2026. No macro, syntax, notation, axiom, sorry.
-/
import Derived.Test.YtgckhjcfcandmaaChecked
import GoSem.Claim
import GoSem.ClaimJoined
import GoSem.ClaimMapViews
import Derived.JoinedTies
import Derived.KernelRfl
namespace Go.Proofs.Ytgckhjcfcandmaa
/- THE CELL 'sum', in the pinned program and in every row, IS THE sha256 OF THE DUMP (.gsa) THAT YtgckhjcfcandmaaProg.lean LOADS. Nothing in Lean hashes anything: it is a label: what it is worth is what the hold of that sum in a sandbox is worth. -/
noncomputable def Try.pinned : Pinned := { name := "ytgckhjcfcandmaa", sum := "96cb6a42681fab6440bf04bb364817599e32f956a6dda6035aea9946998d61a2", checked := Try.checked }
namespace Rows
def none {H : Type} : Left H := { results := [], args := [] }

/-- 'laws.FnExactIsLease': WHATEVER THE INPUT: true; the input reads as it did. -/
def fnExactIsLeaseSpec : ChangeSpec := { name := "fnExactIsLease", fn := fun _ => fun
  | [d] => { results := [.lit (.bool true)], args := [d] }
  | _ => none }
def fnExactIsLeaseRow : OpenClaim := { program := "ytgckhjcfcandmaa", sum := "96cb6a42681fab6440bf04bb364817599e32f956a6dda6035aea9946998d61a2", func := "loop.example/g00594/laws.FnExactIsLease", spec := "fnExactIsLease", apart := false }
def FnExactIsLeaseSaid : Prop := fnExactIsLeaseRow.holds Try.pinned (OpenSpec.ofChange fnExactIsLeaseSpec)

/-- ITS FALSE NEIGHBOUR: 'it returns false'. Refute it at one input. -/
def fnExactIsLeaseWrong : ChangeSpec := { name := "fnExactIsLease", fn := fun _ => fun
  | [d] => { results := [.lit (.bool false)], args := [d] }
  | _ => none }
def FnExactIsLeaseWrongFalsely : Prop := fnExactIsLeaseRow.holds Try.pinned (OpenSpec.ofChange fnExactIsLeaseWrong)

/-- 'laws.FnExactSameQuestion': WHATEVER THE INPUT: true; the input reads as it did. -/
def fnExactSameQuestionSpec : ChangeSpec := { name := "fnExactSameQuestion", fn := fun _ => fun
  | [d1, d2] => { results := [.lit (.bool true)], args := [d1, d2] }
  | _ => none }
def fnExactSameQuestionRow : OpenClaim := { program := "ytgckhjcfcandmaa", sum := "96cb6a42681fab6440bf04bb364817599e32f956a6dda6035aea9946998d61a2", func := "loop.example/g00594/laws.FnExactSameQuestion", spec := "fnExactSameQuestion", apart := false }
def FnExactSameQuestionSaid : Prop := fnExactSameQuestionRow.holds Try.pinned (OpenSpec.ofChange fnExactSameQuestionSpec)

/-- ITS FALSE NEIGHBOUR: 'it returns false'. Refute it at one input. -/
def fnExactSameQuestionWrong : ChangeSpec := { name := "fnExactSameQuestion", fn := fun _ => fun
  | [d1, d2] => { results := [.lit (.bool false)], args := [d1, d2] }
  | _ => none }
def FnExactSameQuestionWrongFalsely : Prop := fnExactSameQuestionRow.holds Try.pinned (OpenSpec.ofChange fnExactSameQuestionWrong)

/-- 'laws.FnExactIsInForce': WHATEVER THE INPUT: true; the input reads as it did. -/
def fnExactIsInForceSpec : ChangeSpec := { name := "fnExactIsInForce", fn := fun _ => fun
  | [d1, d2] => { results := [.lit (.bool true)], args := [d1, d2] }
  | _ => none }
def fnExactIsInForceRow : OpenClaim := { program := "ytgckhjcfcandmaa", sum := "96cb6a42681fab6440bf04bb364817599e32f956a6dda6035aea9946998d61a2", func := "loop.example/g00594/laws.FnExactIsInForce", spec := "fnExactIsInForce", apart := false }
def FnExactIsInForceSaid : Prop := fnExactIsInForceRow.holds Try.pinned (OpenSpec.ofChange fnExactIsInForceSpec)

/-- ITS FALSE NEIGHBOUR: 'it returns false'. Refute it at one input. -/
def fnExactIsInForceWrong : ChangeSpec := { name := "fnExactIsInForce", fn := fun _ => fun
  | [d1, d2] => { results := [.lit (.bool false)], args := [d1, d2] }
  | _ => none }
def FnExactIsInForceWrongFalsely : Prop := fnExactIsInForceRow.holds Try.pinned (OpenSpec.ofChange fnExactIsInForceWrong)

/-- 'laws.FnExactIsRequest': WHATEVER THE INPUT: true; the input reads as it did. -/
def fnExactIsRequestSpec : ChangeSpec := { name := "fnExactIsRequest", fn := fun _ => fun
  | [d] => { results := [.lit (.bool true)], args := [d] }
  | _ => none }
def fnExactIsRequestRow : OpenClaim := { program := "ytgckhjcfcandmaa", sum := "96cb6a42681fab6440bf04bb364817599e32f956a6dda6035aea9946998d61a2", func := "loop.example/g00594/laws.FnExactIsRequest", spec := "fnExactIsRequest", apart := false }
def FnExactIsRequestSaid : Prop := fnExactIsRequestRow.holds Try.pinned (OpenSpec.ofChange fnExactIsRequestSpec)

/-- ITS FALSE NEIGHBOUR: 'it returns false'. Refute it at one input. -/
def fnExactIsRequestWrong : ChangeSpec := { name := "fnExactIsRequest", fn := fun _ => fun
  | [d] => { results := [.lit (.bool false)], args := [d] }
  | _ => none }
def FnExactIsRequestWrongFalsely : Prop := fnExactIsRequestRow.holds Try.pinned (OpenSpec.ofChange fnExactIsRequestWrong)

/-- 'laws.FnExactAtTime': WHATEVER THE INPUT: true; the input reads as it did. -/
def fnExactAtTimeSpec : ChangeSpec := { name := "fnExactAtTime", fn := fun _ => fun
  | [d1, d2] => { results := [.lit (.bool true)], args := [d1, d2] }
  | _ => none }
def fnExactAtTimeRow : OpenClaim := { program := "ytgckhjcfcandmaa", sum := "96cb6a42681fab6440bf04bb364817599e32f956a6dda6035aea9946998d61a2", func := "loop.example/g00594/laws.FnExactAtTime", spec := "fnExactAtTime", apart := false }
def FnExactAtTimeSaid : Prop := fnExactAtTimeRow.holds Try.pinned (OpenSpec.ofChange fnExactAtTimeSpec)

/-- ITS FALSE NEIGHBOUR: 'it returns false'. Refute it at one input. -/
def fnExactAtTimeWrong : ChangeSpec := { name := "fnExactAtTime", fn := fun _ => fun
  | [d1, d2] => { results := [.lit (.bool false)], args := [d1, d2] }
  | _ => none }
def FnExactAtTimeWrongFalsely : Prop := fnExactAtTimeRow.holds Try.pinned (OpenSpec.ofChange fnExactAtTimeWrong)

/-- 'laws.FnExactWithoutIndex': WHATEVER THE INPUT: true; the input reads as it did. -/
def fnExactWithoutIndexSpec : ChangeSpec := { name := "fnExactWithoutIndex", fn := fun _ => fun
  | [d1, d2] => { results := [.lit (.bool true)], args := [d1, d2] }
  | _ => none }
def fnExactWithoutIndexRow : OpenClaim := { program := "ytgckhjcfcandmaa", sum := "96cb6a42681fab6440bf04bb364817599e32f956a6dda6035aea9946998d61a2", func := "loop.example/g00594/laws.FnExactWithoutIndex", spec := "fnExactWithoutIndex", apart := false }
def FnExactWithoutIndexSaid : Prop := fnExactWithoutIndexRow.holds Try.pinned (OpenSpec.ofChange fnExactWithoutIndexSpec)

/-- ITS FALSE NEIGHBOUR: 'it returns false'. Refute it at one input. -/
def fnExactWithoutIndexWrong : ChangeSpec := { name := "fnExactWithoutIndex", fn := fun _ => fun
  | [d1, d2] => { results := [.lit (.bool false)], args := [d1, d2] }
  | _ => none }
def FnExactWithoutIndexWrongFalsely : Prop := fnExactWithoutIndexRow.holds Try.pinned (OpenSpec.ofChange fnExactWithoutIndexWrong)

/- THE SECOND FORM. 'bulk': how many values and letters a reading holds, each counted each time it is reached (what is shared counts as often as it is met; a slice's spare places count too). A statement '..UptoSaid' is the law's where the arguments, and the package variables that the reading takes, are together of bulk at most 1048576: NARROWER than '..Said'. Prove '..Said' where nothing that the law and all that it calls make is longer than what came in: it says more and counts as full. Else prove '..UptoSaid'. A law counts once. -/
mutual
def uptoBulk {H : Type} : DataW H → Nat
  | .lit (.string bytes) => bytes.length + 1
  | .lit _ => 1
  | .nil => 1
  | .ptr d => uptoBulk d + 1
  | .slice elems spare => uptoBulkAll elems + uptoBulkAll spare + 1
  | .agg parts => uptoBulkAll parts + 1
  | .iface _ d => uptoBulk d + 1
  | .map entries => uptoBulkEntries entries + 1
  | .held _ => 1
def uptoBulkAll {H : Type} : List (DataW H) → Nat
  | [] => 0
  | d :: r => uptoBulk d + uptoBulkAll r
def uptoBulkEntries {H : Type} : List (Lit × DataW H) → Nat
  | [] => 0
  | x :: r => uptoBulkEntry x + uptoBulkEntries r
def uptoBulkEntry {H : Type} : Lit × DataW H → Nat
  | (.string bytes, d) => bytes.length + uptoBulk d + 1
  | (_, d) => uptoBulk d + 1
 end
def uptoSmall : (H : Type) → List (DataW H) → Bool := fun _ ds => decide (uptoBulkAll ds ≤ 1048576)
def OpenSpec.upto (s : _root_.Go.ChangeSpec) : _root_.Go.OpenSpec := { _root_.Go.OpenSpec.ofChange s with cond := some uptoSmall }

/-- 'laws.FnExactIsLease', WHERE WHAT IT READS IS OF BULK AT MOST 1048576: true; the input reads as it did. -/
def fnExactIsLeaseUptoRow : OpenClaim := { program := "ytgckhjcfcandmaa", sum := "96cb6a42681fab6440bf04bb364817599e32f956a6dda6035aea9946998d61a2", func := "loop.example/g00594/laws.FnExactIsLease", spec := "fnExactIsLease", apart := false, narrowed := true }
def FnExactIsLeaseUptoSaid : Prop := fnExactIsLeaseUptoRow.holds Try.pinned (OpenSpec.upto fnExactIsLeaseSpec)

/-- 'laws.FnExactSameQuestion', WHERE WHAT IT READS IS OF BULK AT MOST 1048576: true; the input reads as it did. -/
def fnExactSameQuestionUptoRow : OpenClaim := { program := "ytgckhjcfcandmaa", sum := "96cb6a42681fab6440bf04bb364817599e32f956a6dda6035aea9946998d61a2", func := "loop.example/g00594/laws.FnExactSameQuestion", spec := "fnExactSameQuestion", apart := false, narrowed := true }
def FnExactSameQuestionUptoSaid : Prop := fnExactSameQuestionUptoRow.holds Try.pinned (OpenSpec.upto fnExactSameQuestionSpec)

/-- 'laws.FnExactIsInForce', WHERE WHAT IT READS IS OF BULK AT MOST 1048576: true; the input reads as it did. -/
def fnExactIsInForceUptoRow : OpenClaim := { program := "ytgckhjcfcandmaa", sum := "96cb6a42681fab6440bf04bb364817599e32f956a6dda6035aea9946998d61a2", func := "loop.example/g00594/laws.FnExactIsInForce", spec := "fnExactIsInForce", apart := false, narrowed := true }
def FnExactIsInForceUptoSaid : Prop := fnExactIsInForceUptoRow.holds Try.pinned (OpenSpec.upto fnExactIsInForceSpec)

/-- 'laws.FnExactIsRequest', WHERE WHAT IT READS IS OF BULK AT MOST 1048576: true; the input reads as it did. -/
def fnExactIsRequestUptoRow : OpenClaim := { program := "ytgckhjcfcandmaa", sum := "96cb6a42681fab6440bf04bb364817599e32f956a6dda6035aea9946998d61a2", func := "loop.example/g00594/laws.FnExactIsRequest", spec := "fnExactIsRequest", apart := false, narrowed := true }
def FnExactIsRequestUptoSaid : Prop := fnExactIsRequestUptoRow.holds Try.pinned (OpenSpec.upto fnExactIsRequestSpec)

/-- 'laws.FnExactAtTime', WHERE WHAT IT READS IS OF BULK AT MOST 1048576: true; the input reads as it did. -/
def fnExactAtTimeUptoRow : OpenClaim := { program := "ytgckhjcfcandmaa", sum := "96cb6a42681fab6440bf04bb364817599e32f956a6dda6035aea9946998d61a2", func := "loop.example/g00594/laws.FnExactAtTime", spec := "fnExactAtTime", apart := false, narrowed := true }
def FnExactAtTimeUptoSaid : Prop := fnExactAtTimeUptoRow.holds Try.pinned (OpenSpec.upto fnExactAtTimeSpec)

/-- 'laws.FnExactWithoutIndex', WHERE WHAT IT READS IS OF BULK AT MOST 1048576: true; the input reads as it did. -/
def fnExactWithoutIndexUptoRow : OpenClaim := { program := "ytgckhjcfcandmaa", sum := "96cb6a42681fab6440bf04bb364817599e32f956a6dda6035aea9946998d61a2", func := "loop.example/g00594/laws.FnExactWithoutIndex", spec := "fnExactWithoutIndex", apart := false, narrowed := true }
def FnExactWithoutIndexUptoSaid : Prop := fnExactWithoutIndexUptoRow.holds Try.pinned (OpenSpec.upto fnExactWithoutIndexSpec)

end Rows
end Go.Proofs.Ytgckhjcfcandmaa
