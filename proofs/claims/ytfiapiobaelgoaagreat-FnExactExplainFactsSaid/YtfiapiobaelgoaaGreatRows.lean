/-
  NARROWER THAN 'FOR EVERY INPUT', by the rows' own cells (each row's printed sentence says how): FnExactExplainFacts: loops · FnExactRulesThatHold: loops.
  DERIVED. THE GIVEN ROWS OF THIS SEAT. 2 by the template 'for every input the law returns true; each argument reads behind the call as it read before'; 0 by the template 'total and deterministic' (their statements: YtfiapiobaelgoaaGreatTotals.lean).
  GIVEN WITH THE SEED: the statements are not yours to turn. If you find one false, say at which input.
  Laid BY PROGRAM, IN A SANDBOX (cutbox-rows.mjs): the forced cells as the released guide's own fill.sh prints them over the translation c7525f5db44dcbc7… (all of the seat's roots in one cut). By AI agents, Wed Nov 11 2026. No macro, syntax, notation, axiom, sorry.
-/
import Derived.Test.YtfiapiobaelgoaaGreatChecked
import GoSem.Claim
import GoSem.ClaimJoined
import GoSem.ClaimMapViews
import Derived.JoinedTies
import Derived.KernelRfl
namespace Go.Proofs.YtfiapiobaelgoaaGreat
/- THE CELL 'sum', in the pinned program and in every row, IS THE sha256 OF THE DUMP (.gsa) THAT YtfiapiobaelgoaaGreatProg.lean LOADS. Nothing in Lean hashes anything: it is a label: what it is worth is what the hold of that sum in a sandbox is worth. -/
noncomputable def Tryz.pinned : Pinned := { name := "ytfiapiobaelgoaagreat", sum := "c7525f5db44dcbc788de14ce85ebcbd25bd47492620fc14f7bb5dde2c43151b4", checked := Tryz.checked }
namespace Rows
def none {H : Type} : Left H := { results := [], args := [] }

/-- 'laws.FnExactExplainFacts': WHATEVER THE INPUT: true; the input reads as it did. -/
def fnExactExplainFactsSpec : ChangeSpec := { name := "fnExactExplainFacts", fn := fun _ => fun
  | [d1, d2, d3, d4] => { results := [.lit (.bool true)], args := [d1, d2, d3, d4] }
  | _ => none }
def fnExactExplainFactsRow : OpenClaim := { program := "ytfiapiobaelgoaagreat", sum := "c7525f5db44dcbc788de14ce85ebcbd25bd47492620fc14f7bb5dde2c43151b4", func := "loop.example/g00594/laws.FnExactExplainFacts", spec := "fnExactExplainFacts", unfollowed := true, recurses := true, loops := true, apart := false }
def FnExactExplainFactsSaid : Prop := fnExactExplainFactsRow.holds Tryz.pinned (OpenSpec.ofChange fnExactExplainFactsSpec)

/-- ITS FALSE NEIGHBOUR: 'it returns false'. Refute it at one input. -/
def fnExactExplainFactsWrong : ChangeSpec := { name := "fnExactExplainFacts", fn := fun _ => fun
  | [d1, d2, d3, d4] => { results := [.lit (.bool false)], args := [d1, d2, d3, d4] }
  | _ => none }
def FnExactExplainFactsWrongFalsely : Prop := fnExactExplainFactsRow.holds Tryz.pinned (OpenSpec.ofChange fnExactExplainFactsWrong)

/-- 'laws.FnExactRulesThatHold': WHATEVER THE INPUT: true; the input reads as it did. -/
def fnExactRulesThatHoldSpec : ChangeSpec := { name := "fnExactRulesThatHold", fn := fun _ => fun
  | [d1, d2, d3, d4] => { results := [.lit (.bool true)], args := [d1, d2, d3, d4] }
  | _ => none }
def fnExactRulesThatHoldRow : OpenClaim := { program := "ytfiapiobaelgoaagreat", sum := "c7525f5db44dcbc788de14ce85ebcbd25bd47492620fc14f7bb5dde2c43151b4", func := "loop.example/g00594/laws.FnExactRulesThatHold", spec := "fnExactRulesThatHold", unfollowed := true, recurses := true, loops := true, apart := false }
def FnExactRulesThatHoldSaid : Prop := fnExactRulesThatHoldRow.holds Tryz.pinned (OpenSpec.ofChange fnExactRulesThatHoldSpec)

/-- ITS FALSE NEIGHBOUR: 'it returns false'. Refute it at one input. -/
def fnExactRulesThatHoldWrong : ChangeSpec := { name := "fnExactRulesThatHold", fn := fun _ => fun
  | [d1, d2, d3, d4] => { results := [.lit (.bool false)], args := [d1, d2, d3, d4] }
  | _ => none }
def FnExactRulesThatHoldWrongFalsely : Prop := fnExactRulesThatHoldRow.holds Tryz.pinned (OpenSpec.ofChange fnExactRulesThatHoldWrong)

/- THE SECOND FORM. 'bulk': how many values and letters a reading holds, each counted each time it is reached (what is shared counts as often as it is met; a slice's spare places count too). A statement '..UptoSaid' is the law's where the arguments, and the package variables that the reading takes, are together of bulk at most 1048576: NARROWER than '..Said'. Prove '..Said' where nothing that the law and all that it calls make is longer than what came in: it says more and counts as full. Else prove '..UptoSaid'. A law counts once. -/
mutual
def uptoBulk {H : Type} : DataW H → Nat
  | .lit (.string bytes) => bytes.length + 1
  | .lit _ => 1
  | .nil => 1
  | .ptr d => uptoBulk d + 1
  | .slice elems spare => uptoBulkAll elems + uptoBulkAll spare + 1
  | .agg parts => uptoBulkAll parts + 1
  | .iface _ d => uptoBulk d + 1
  | .map entries => uptoBulkEntries entries + 1
  | .held _ => 1
def uptoBulkAll {H : Type} : List (DataW H) → Nat
  | [] => 0
  | d :: r => uptoBulk d + uptoBulkAll r
def uptoBulkEntries {H : Type} : List (Lit × DataW H) → Nat
  | [] => 0
  | x :: r => uptoBulkEntry x + uptoBulkEntries r
def uptoBulkEntry {H : Type} : Lit × DataW H → Nat
  | (.string bytes, d) => bytes.length + uptoBulk d + 1
  | (_, d) => uptoBulk d + 1
 end
def uptoSmall : (H : Type) → List (DataW H) → Bool := fun _ ds => decide (uptoBulkAll ds ≤ 1048576)
def OpenSpec.upto (s : _root_.Go.ChangeSpec) : _root_.Go.OpenSpec := { _root_.Go.OpenSpec.ofChange s with cond := some uptoSmall }

/-- 'laws.FnExactExplainFacts', WHERE WHAT IT READS IS OF BULK AT MOST 1048576: true; the input reads as it did. -/
def fnExactExplainFactsUptoRow : OpenClaim := { program := "ytfiapiobaelgoaagreat", sum := "c7525f5db44dcbc788de14ce85ebcbd25bd47492620fc14f7bb5dde2c43151b4", func := "loop.example/g00594/laws.FnExactExplainFacts", spec := "fnExactExplainFacts", unfollowed := true, recurses := true, loops := true, apart := false, narrowed := true }
def FnExactExplainFactsUptoSaid : Prop := fnExactExplainFactsUptoRow.holds Tryz.pinned (OpenSpec.upto fnExactExplainFactsSpec)

/-- 'laws.FnExactRulesThatHold', WHERE WHAT IT READS IS OF BULK AT MOST 1048576: true; the input reads as it did. -/
def fnExactRulesThatHoldUptoRow : OpenClaim := { program := "ytfiapiobaelgoaagreat", sum := "c7525f5db44dcbc788de14ce85ebcbd25bd47492620fc14f7bb5dde2c43151b4", func := "loop.example/g00594/laws.FnExactRulesThatHold", spec := "fnExactRulesThatHold", unfollowed := true, recurses := true, loops := true, apart := false, narrowed := true }
def FnExactRulesThatHoldUptoSaid : Prop := fnExactRulesThatHoldUptoRow.holds Tryz.pinned (OpenSpec.upto fnExactRulesThatHoldSpec)

end Rows
end Go.Proofs.YtfiapiobaelgoaaGreat
