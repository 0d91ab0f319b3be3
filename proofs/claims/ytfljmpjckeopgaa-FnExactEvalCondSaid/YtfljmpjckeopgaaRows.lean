/-
  NARROWER THAN 'FOR EVERY INPUT', by the rows' own cells (each row's printed sentence says how): FnExactLeafHolds: loops · FnExactEvalCond: loops.
  DERIVED. THE GIVEN ROWS OF THIS SEAT. 2 by the template 'for every input the law returns true; each argument reads behind the call as it read before'; 0 by the template 'total and deterministic' (their statements: YtfljmpjckeopgaaTotals.lean).
  GIVEN WITH THE SEED: the statements are not yours to turn. If you find one false, say at which input.
  Laid BY PROGRAM, IN A SANDBOX (cutbox-rows.mjs): the forced cells as the released guide's own fill.sh prints them over the translation 4d3e572c6de46656… (all of the seat's roots in one cut). By AI agents, Wed Nov 11 2026. No macro, syntax, notation, axiom, sorry.
-/
import Derived.Test.YtfljmpjckeopgaaChecked
import GoSem.Claim
import GoSem.ClaimJoined
import GoSem.ClaimMapViews
import Derived.JoinedTies
import Derived.KernelRfl
namespace Go.Proofs.Ytfljmpjckeopgaa
/- THE CELL 'sum', in the pinned program and in every row, IS THE sha256 OF THE DUMP (.gsa) THAT YtfljmpjckeopgaaProg.lean LOADS. Nothing in Lean hashes anything: it is a label: what it is worth is what the hold of that sum in a sandbox is worth. -/
noncomputable def Try.pinned : Pinned := { name := "ytfljmpjckeopgaa", sum := "4d3e572c6de46656a8bc1e892e7df57be1ce770f130df437222e373432398730", checked := Try.checked }
namespace Rows
def none {H : Type} : Left H := { results := [], args := [] }

/-- 'laws.FnExactLeafHolds': WHATEVER THE INPUT: true; the input reads as it did. -/
def fnExactLeafHoldsSpec : ChangeSpec := { name := "fnExactLeafHolds", fn := fun _ => fun
  | [d1, d2, d3, d4] => { results := [.lit (.bool true)], args := [d1, d2, d3, d4] }
  | _ => none }
def fnExactLeafHoldsRow : OpenClaim := { program := "ytfljmpjckeopgaa", sum := "4d3e572c6de46656a8bc1e892e7df57be1ce770f130df437222e373432398730", func := "loop.example/g00594/laws.FnExactLeafHolds", spec := "fnExactLeafHolds", unfollowed := true, recurses := true, loops := true, apart := false }
def FnExactLeafHoldsSaid : Prop := fnExactLeafHoldsRow.holds Try.pinned (OpenSpec.ofChange fnExactLeafHoldsSpec)

/-- ITS FALSE NEIGHBOUR: 'it returns false'. Refute it at one input. -/
def fnExactLeafHoldsWrong : ChangeSpec := { name := "fnExactLeafHolds", fn := fun _ => fun
  | [d1, d2, d3, d4] => { results := [.lit (.bool false)], args := [d1, d2, d3, d4] }
  | _ => none }
def FnExactLeafHoldsWrongFalsely : Prop := fnExactLeafHoldsRow.holds Try.pinned (OpenSpec.ofChange fnExactLeafHoldsWrong)

/-- 'laws.FnExactEvalCond': WHATEVER THE INPUT: true; the input reads as it did. -/
def fnExactEvalCondSpec : ChangeSpec := { name := "fnExactEvalCond", fn := fun _ => fun
  | [d1, d2, d3, d4] => { results := [.lit (.bool true)], args := [d1, d2, d3, d4] }
  | _ => none }
def fnExactEvalCondRow : OpenClaim := { program := "ytfljmpjckeopgaa", sum := "4d3e572c6de46656a8bc1e892e7df57be1ce770f130df437222e373432398730", func := "loop.example/g00594/laws.FnExactEvalCond", spec := "fnExactEvalCond", unfollowed := true, recurses := true, loops := true, apart := false }
def FnExactEvalCondSaid : Prop := fnExactEvalCondRow.holds Try.pinned (OpenSpec.ofChange fnExactEvalCondSpec)

/-- ITS FALSE NEIGHBOUR: 'it returns false'. Refute it at one input. -/
def fnExactEvalCondWrong : ChangeSpec := { name := "fnExactEvalCond", fn := fun _ => fun
  | [d1, d2, d3, d4] => { results := [.lit (.bool false)], args := [d1, d2, d3, d4] }
  | _ => none }
def FnExactEvalCondWrongFalsely : Prop := fnExactEvalCondRow.holds Try.pinned (OpenSpec.ofChange fnExactEvalCondWrong)

/- THE SECOND FORM. 'bulk': how many values and letters a reading holds, each counted each time it is reached (what is shared counts as often as it is met; a slice's spare places count too). A statement '..UptoSaid' is the law's where the arguments, and the package variables that the reading takes, are together of bulk at most 1048576: NARROWER than '..Said'. Prove '..Said' where nothing that the law and all that it calls make is longer than what came in: it says more and counts as full. Else prove '..UptoSaid'. A law counts once. -/
mutual
def uptoBulk {H : Type} : DataW H → Nat
  | .lit (.string bytes) => bytes.length + 1
  | .lit _ => 1
  | .nil => 1
  | .ptr d => uptoBulk d + 1
  | .slice elems spare => uptoBulkAll elems + uptoBulkAll spare + 1
  | .agg parts => uptoBulkAll parts + 1
  | .iface _ d => uptoBulk d + 1
  | .map entries => uptoBulkEntries entries + 1
  | .held _ => 1
def uptoBulkAll {H : Type} : List (DataW H) → Nat
  | [] => 0
  | d :: r => uptoBulk d + uptoBulkAll r
def uptoBulkEntries {H : Type} : List (Lit × DataW H) → Nat
  | [] => 0
  | x :: r => uptoBulkEntry x + uptoBulkEntries r
def uptoBulkEntry {H : Type} : Lit × DataW H → Nat
  | (.string bytes, d) => bytes.length + uptoBulk d + 1
  | (_, d) => uptoBulk d + 1
 end
def uptoSmall : (H : Type) → List (DataW H) → Bool := fun _ ds => decide (uptoBulkAll ds ≤ 1048576)
def OpenSpec.upto (s : _root_.Go.ChangeSpec) : _root_.Go.OpenSpec := { _root_.Go.OpenSpec.ofChange s with cond := some uptoSmall }

/-- 'laws.FnExactLeafHolds', WHERE WHAT IT READS IS OF BULK AT MOST 1048576: true; the input reads as it did. -/
def fnExactLeafHoldsUptoRow : OpenClaim := { program := "ytfljmpjckeopgaa", sum := "4d3e572c6de46656a8bc1e892e7df57be1ce770f130df437222e373432398730", func := "loop.example/g00594/laws.FnExactLeafHolds", spec := "fnExactLeafHolds", unfollowed := true, recurses := true, loops := true, apart := false, narrowed := true }
def FnExactLeafHoldsUptoSaid : Prop := fnExactLeafHoldsUptoRow.holds Try.pinned (OpenSpec.upto fnExactLeafHoldsSpec)

/-- 'laws.FnExactEvalCond', WHERE WHAT IT READS IS OF BULK AT MOST 1048576: true; the input reads as it did. -/
def fnExactEvalCondUptoRow : OpenClaim := { program := "ytfljmpjckeopgaa", sum := "4d3e572c6de46656a8bc1e892e7df57be1ce770f130df437222e373432398730", func := "loop.example/g00594/laws.FnExactEvalCond", spec := "fnExactEvalCond", unfollowed := true, recurses := true, loops := true, apart := false, narrowed := true }
def FnExactEvalCondUptoSaid : Prop := fnExactEvalCondUptoRow.holds Try.pinned (OpenSpec.upto fnExactEvalCondSpec)

end Rows
end Go.Proofs.Ytfljmpjckeopgaa
