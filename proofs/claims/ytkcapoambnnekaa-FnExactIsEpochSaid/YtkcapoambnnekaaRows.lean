/-
  NARROWER THAN 'FOR EVERY INPUT', by the rows' own cells (each row's printed sentence says how): FnExactEqualPolicies: loops · FnExactIsRule: loops · FnExactNewestNumber: loops · FnExactNumberAt: loops · FnExactFindEpoch: loops · FnExactIsPolicy: loops · FnExactWithoutRule: loops · FnExactEqualEpochs: loops · FnExactTakeLease: loops · FnExactIsEpoch: loops · FnExactAreEpochs: loops · FnExactPublishEpoch: loops.
  DERIVED. THE GIVEN ROWS OF THIS SEAT. 12 by the template 'for every input the law returns true; each argument reads behind the call as it read before'; 0 by the template 'total and deterministic' (their statements: YtkcapoambnnekaaTotals.lean).
  GIVEN WITH THE SEED: the statements are not yours to turn. If you find one false, say at which input.
  Laid BY PROGRAM, IN A SANDBOX (cutbox-rows.mjs): the forced cells as the released guide's own fill.sh prints them over the translation 0dee8dda66882412… (all of the seat's roots in one cut). By AI agents, Wed Nov 11 2026. No macro, syntax, notation, axiom, sorry.
-/
import Derived.Test.YtkcapoambnnekaaChecked
import GoSem.Claim
import GoSem.ClaimJoined
import GoSem.ClaimMapViews
import Derived.JoinedTies
import Derived.KernelRfl
namespace Go.Proofs.Ytkcapoambnnekaa
/- THE CELL 'sum', in the pinned program and in every row, IS THE sha256 OF THE DUMP (.gsa) THAT YtkcapoambnnekaaProg.lean LOADS. Nothing in Lean hashes anything: it is a label: what it is worth is what the hold of that sum in a sandbox is worth. -/
noncomputable def Try.pinned : Pinned := { name := "ytkcapoambnnekaa", sum := "0dee8dda668824123a2ebf1d566dfa6354b5c5962d4ee82195216a29521f998f", checked := Try.checked }
namespace Rows
def none {H : Type} : Left H := { results := [], args := [] }

/-- 'laws.FnExactEqualPolicies': WHATEVER THE INPUT: true; the input reads as it did. -/
def fnExactEqualPoliciesSpec : ChangeSpec := { name := "fnExactEqualPolicies", fn := fun _ => fun
  | [d1, d2] => { results := [.lit (.bool true)], args := [d1, d2] }
  | _ => none }
def fnExactEqualPoliciesRow : OpenClaim := { program := "ytkcapoambnnekaa", sum := "0dee8dda668824123a2ebf1d566dfa6354b5c5962d4ee82195216a29521f998f", func := "loop.example/g00594/laws.FnExactEqualPolicies", spec := "fnExactEqualPolicies", unfollowed := true, recurses := true, loops := true, apart := false }
def FnExactEqualPoliciesSaid : Prop := fnExactEqualPoliciesRow.holds Try.pinned (OpenSpec.ofChange fnExactEqualPoliciesSpec)

/-- ITS FALSE NEIGHBOUR: 'it returns false'. Refute it at one input. -/
def fnExactEqualPoliciesWrong : ChangeSpec := { name := "fnExactEqualPolicies", fn := fun _ => fun
  | [d1, d2] => { results := [.lit (.bool false)], args := [d1, d2] }
  | _ => none }
def FnExactEqualPoliciesWrongFalsely : Prop := fnExactEqualPoliciesRow.holds Try.pinned (OpenSpec.ofChange fnExactEqualPoliciesWrong)

/-- 'laws.FnExactIsRule': WHATEVER THE INPUT: true; the input reads as it did. -/
def fnExactIsRuleSpec : ChangeSpec := { name := "fnExactIsRule", fn := fun _ => fun
  | [d] => { results := [.lit (.bool true)], args := [d] }
  | _ => none }
def fnExactIsRuleRow : OpenClaim := { program := "ytkcapoambnnekaa", sum := "0dee8dda668824123a2ebf1d566dfa6354b5c5962d4ee82195216a29521f998f", func := "loop.example/g00594/laws.FnExactIsRule", spec := "fnExactIsRule", unfollowed := true, recurses := true, loops := true, apart := false }
def FnExactIsRuleSaid : Prop := fnExactIsRuleRow.holds Try.pinned (OpenSpec.ofChange fnExactIsRuleSpec)

/-- ITS FALSE NEIGHBOUR: 'it returns false'. Refute it at one input. -/
def fnExactIsRuleWrong : ChangeSpec := { name := "fnExactIsRule", fn := fun _ => fun
  | [d] => { results := [.lit (.bool false)], args := [d] }
  | _ => none }
def FnExactIsRuleWrongFalsely : Prop := fnExactIsRuleRow.holds Try.pinned (OpenSpec.ofChange fnExactIsRuleWrong)

/-- 'laws.FnExactNewestNumber': WHATEVER THE INPUT: true; the input reads as it did. -/
def fnExactNewestNumberSpec : ChangeSpec := { name := "fnExactNewestNumber", fn := fun _ => fun
  | [d] => { results := [.lit (.bool true)], args := [d] }
  | _ => none }
def fnExactNewestNumberRow : OpenClaim := { program := "ytkcapoambnnekaa", sum := "0dee8dda668824123a2ebf1d566dfa6354b5c5962d4ee82195216a29521f998f", func := "loop.example/g00594/laws.FnExactNewestNumber", spec := "fnExactNewestNumber", recurses := true, loops := true, apart := false }
def FnExactNewestNumberSaid : Prop := fnExactNewestNumberRow.holds Try.pinned (OpenSpec.ofChange fnExactNewestNumberSpec)

/-- ITS FALSE NEIGHBOUR: 'it returns false'. Refute it at one input. -/
def fnExactNewestNumberWrong : ChangeSpec := { name := "fnExactNewestNumber", fn := fun _ => fun
  | [d] => { results := [.lit (.bool false)], args := [d] }
  | _ => none }
def FnExactNewestNumberWrongFalsely : Prop := fnExactNewestNumberRow.holds Try.pinned (OpenSpec.ofChange fnExactNewestNumberWrong)

/-- 'laws.FnExactNumberAt': WHATEVER THE INPUT: true; the input reads as it did. -/
def fnExactNumberAtSpec : ChangeSpec := { name := "fnExactNumberAt", fn := fun _ => fun
  | [d1, d2] => { results := [.lit (.bool true)], args := [d1, d2] }
  | _ => none }
def fnExactNumberAtRow : OpenClaim := { program := "ytkcapoambnnekaa", sum := "0dee8dda668824123a2ebf1d566dfa6354b5c5962d4ee82195216a29521f998f", func := "loop.example/g00594/laws.FnExactNumberAt", spec := "fnExactNumberAt", recurses := true, loops := true, apart := false }
def FnExactNumberAtSaid : Prop := fnExactNumberAtRow.holds Try.pinned (OpenSpec.ofChange fnExactNumberAtSpec)

/-- ITS FALSE NEIGHBOUR: 'it returns false'. Refute it at one input. -/
def fnExactNumberAtWrong : ChangeSpec := { name := "fnExactNumberAt", fn := fun _ => fun
  | [d1, d2] => { results := [.lit (.bool false)], args := [d1, d2] }
  | _ => none }
def FnExactNumberAtWrongFalsely : Prop := fnExactNumberAtRow.holds Try.pinned (OpenSpec.ofChange fnExactNumberAtWrong)

/-- 'laws.FnExactFindEpoch': WHATEVER THE INPUT: true; the input reads as it did. -/
def fnExactFindEpochSpec : ChangeSpec := { name := "fnExactFindEpoch", fn := fun _ => fun
  | [d1, d2] => { results := [.lit (.bool true)], args := [d1, d2] }
  | _ => none }
def fnExactFindEpochRow : OpenClaim := { program := "ytkcapoambnnekaa", sum := "0dee8dda668824123a2ebf1d566dfa6354b5c5962d4ee82195216a29521f998f", func := "loop.example/g00594/laws.FnExactFindEpoch", spec := "fnExactFindEpoch", unfollowed := true, recurses := true, loops := true, apart := false }
def FnExactFindEpochSaid : Prop := fnExactFindEpochRow.holds Try.pinned (OpenSpec.ofChange fnExactFindEpochSpec)

/-- ITS FALSE NEIGHBOUR: 'it returns false'. Refute it at one input. -/
def fnExactFindEpochWrong : ChangeSpec := { name := "fnExactFindEpoch", fn := fun _ => fun
  | [d1, d2] => { results := [.lit (.bool false)], args := [d1, d2] }
  | _ => none }
def FnExactFindEpochWrongFalsely : Prop := fnExactFindEpochRow.holds Try.pinned (OpenSpec.ofChange fnExactFindEpochWrong)

/-- 'laws.FnExactIsPolicy': WHATEVER THE INPUT: true; the input reads as it did. -/
def fnExactIsPolicySpec : ChangeSpec := { name := "fnExactIsPolicy", fn := fun _ => fun
  | [d] => { results := [.lit (.bool true)], args := [d] }
  | _ => none }
def fnExactIsPolicyRow : OpenClaim := { program := "ytkcapoambnnekaa", sum := "0dee8dda668824123a2ebf1d566dfa6354b5c5962d4ee82195216a29521f998f", func := "loop.example/g00594/laws.FnExactIsPolicy", spec := "fnExactIsPolicy", unfollowed := true, recurses := true, loops := true, apart := false }
def FnExactIsPolicySaid : Prop := fnExactIsPolicyRow.holds Try.pinned (OpenSpec.ofChange fnExactIsPolicySpec)

/-- ITS FALSE NEIGHBOUR: 'it returns false'. Refute it at one input. -/
def fnExactIsPolicyWrong : ChangeSpec := { name := "fnExactIsPolicy", fn := fun _ => fun
  | [d] => { results := [.lit (.bool false)], args := [d] }
  | _ => none }
def FnExactIsPolicyWrongFalsely : Prop := fnExactIsPolicyRow.holds Try.pinned (OpenSpec.ofChange fnExactIsPolicyWrong)

/-- 'laws.FnExactWithoutRule': WHATEVER THE INPUT: true; the input reads as it did. -/
def fnExactWithoutRuleSpec : ChangeSpec := { name := "fnExactWithoutRule", fn := fun _ => fun
  | [d1, d2] => { results := [.lit (.bool true)], args := [d1, d2] }
  | _ => none }
def fnExactWithoutRuleRow : OpenClaim := { program := "ytkcapoambnnekaa", sum := "0dee8dda668824123a2ebf1d566dfa6354b5c5962d4ee82195216a29521f998f", func := "loop.example/g00594/laws.FnExactWithoutRule", spec := "fnExactWithoutRule", recurses := true, loops := true, apart := false }
def FnExactWithoutRuleSaid : Prop := fnExactWithoutRuleRow.holds Try.pinned (OpenSpec.ofChange fnExactWithoutRuleSpec)

/-- ITS FALSE NEIGHBOUR: 'it returns false'. Refute it at one input. -/
def fnExactWithoutRuleWrong : ChangeSpec := { name := "fnExactWithoutRule", fn := fun _ => fun
  | [d1, d2] => { results := [.lit (.bool false)], args := [d1, d2] }
  | _ => none }
def FnExactWithoutRuleWrongFalsely : Prop := fnExactWithoutRuleRow.holds Try.pinned (OpenSpec.ofChange fnExactWithoutRuleWrong)

/-- 'laws.FnExactEqualEpochs': WHATEVER THE INPUT: true; the input reads as it did. -/
def fnExactEqualEpochsSpec : ChangeSpec := { name := "fnExactEqualEpochs", fn := fun _ => fun
  | [d1, d2] => { results := [.lit (.bool true)], args := [d1, d2] }
  | _ => none }
def fnExactEqualEpochsRow : OpenClaim := { program := "ytkcapoambnnekaa", sum := "0dee8dda668824123a2ebf1d566dfa6354b5c5962d4ee82195216a29521f998f", func := "loop.example/g00594/laws.FnExactEqualEpochs", spec := "fnExactEqualEpochs", unfollowed := true, recurses := true, loops := true, apart := false }
def FnExactEqualEpochsSaid : Prop := fnExactEqualEpochsRow.holds Try.pinned (OpenSpec.ofChange fnExactEqualEpochsSpec)

/-- ITS FALSE NEIGHBOUR: 'it returns false'. Refute it at one input. -/
def fnExactEqualEpochsWrong : ChangeSpec := { name := "fnExactEqualEpochs", fn := fun _ => fun
  | [d1, d2] => { results := [.lit (.bool false)], args := [d1, d2] }
  | _ => none }
def FnExactEqualEpochsWrongFalsely : Prop := fnExactEqualEpochsRow.holds Try.pinned (OpenSpec.ofChange fnExactEqualEpochsWrong)

/-- 'laws.FnExactTakeLease': WHATEVER THE INPUT: true; the input reads as it did. -/
def fnExactTakeLeaseSpec : ChangeSpec := { name := "fnExactTakeLease", fn := fun _ => fun
  | [d1, d2, d3] => { results := [.lit (.bool true)], args := [d1, d2, d3] }
  | _ => none }
def fnExactTakeLeaseRow : OpenClaim := { program := "ytkcapoambnnekaa", sum := "0dee8dda668824123a2ebf1d566dfa6354b5c5962d4ee82195216a29521f998f", func := "loop.example/g00594/laws.FnExactTakeLease", spec := "fnExactTakeLease", recurses := true, loops := true, apart := false }
def FnExactTakeLeaseSaid : Prop := fnExactTakeLeaseRow.holds Try.pinned (OpenSpec.ofChange fnExactTakeLeaseSpec)

/-- ITS FALSE NEIGHBOUR: 'it returns false'. Refute it at one input. -/
def fnExactTakeLeaseWrong : ChangeSpec := { name := "fnExactTakeLease", fn := fun _ => fun
  | [d1, d2, d3] => { results := [.lit (.bool false)], args := [d1, d2, d3] }
  | _ => none }
def FnExactTakeLeaseWrongFalsely : Prop := fnExactTakeLeaseRow.holds Try.pinned (OpenSpec.ofChange fnExactTakeLeaseWrong)

/-- 'laws.FnExactIsEpoch': WHATEVER THE INPUT: true; the input reads as it did. -/
def fnExactIsEpochSpec : ChangeSpec := { name := "fnExactIsEpoch", fn := fun _ => fun
  | [d] => { results := [.lit (.bool true)], args := [d] }
  | _ => none }
def fnExactIsEpochRow : OpenClaim := { program := "ytkcapoambnnekaa", sum := "0dee8dda668824123a2ebf1d566dfa6354b5c5962d4ee82195216a29521f998f", func := "loop.example/g00594/laws.FnExactIsEpoch", spec := "fnExactIsEpoch", unfollowed := true, recurses := true, loops := true, apart := false }
def FnExactIsEpochSaid : Prop := fnExactIsEpochRow.holds Try.pinned (OpenSpec.ofChange fnExactIsEpochSpec)

/-- ITS FALSE NEIGHBOUR: 'it returns false'. Refute it at one input. -/
def fnExactIsEpochWrong : ChangeSpec := { name := "fnExactIsEpoch", fn := fun _ => fun
  | [d] => { results := [.lit (.bool false)], args := [d] }
  | _ => none }
def FnExactIsEpochWrongFalsely : Prop := fnExactIsEpochRow.holds Try.pinned (OpenSpec.ofChange fnExactIsEpochWrong)

/-- 'laws.FnExactAreEpochs': WHATEVER THE INPUT: true; the input reads as it did. -/
def fnExactAreEpochsSpec : ChangeSpec := { name := "fnExactAreEpochs", fn := fun _ => fun
  | [d] => { results := [.lit (.bool true)], args := [d] }
  | _ => none }
def fnExactAreEpochsRow : OpenClaim := { program := "ytkcapoambnnekaa", sum := "0dee8dda668824123a2ebf1d566dfa6354b5c5962d4ee82195216a29521f998f", func := "loop.example/g00594/laws.FnExactAreEpochs", spec := "fnExactAreEpochs", unfollowed := true, recurses := true, loops := true, apart := false }
def FnExactAreEpochsSaid : Prop := fnExactAreEpochsRow.holds Try.pinned (OpenSpec.ofChange fnExactAreEpochsSpec)

/-- ITS FALSE NEIGHBOUR: 'it returns false'. Refute it at one input. -/
def fnExactAreEpochsWrong : ChangeSpec := { name := "fnExactAreEpochs", fn := fun _ => fun
  | [d] => { results := [.lit (.bool false)], args := [d] }
  | _ => none }
def FnExactAreEpochsWrongFalsely : Prop := fnExactAreEpochsRow.holds Try.pinned (OpenSpec.ofChange fnExactAreEpochsWrong)

/-- 'laws.FnExactPublishEpoch': WHATEVER THE INPUT: true; the input reads as it did. -/
def fnExactPublishEpochSpec : ChangeSpec := { name := "fnExactPublishEpoch", fn := fun _ => fun
  | [d1, d2, d3, d4] => { results := [.lit (.bool true)], args := [d1, d2, d3, d4] }
  | _ => none }
def fnExactPublishEpochRow : OpenClaim := { program := "ytkcapoambnnekaa", sum := "0dee8dda668824123a2ebf1d566dfa6354b5c5962d4ee82195216a29521f998f", func := "loop.example/g00594/laws.FnExactPublishEpoch", spec := "fnExactPublishEpoch", unfollowed := true, recurses := true, loops := true, apart := false }
def FnExactPublishEpochSaid : Prop := fnExactPublishEpochRow.holds Try.pinned (OpenSpec.ofChange fnExactPublishEpochSpec)

/-- ITS FALSE NEIGHBOUR: 'it returns false'. Refute it at one input. -/
def fnExactPublishEpochWrong : ChangeSpec := { name := "fnExactPublishEpoch", fn := fun _ => fun
  | [d1, d2, d3, d4] => { results := [.lit (.bool false)], args := [d1, d2, d3, d4] }
  | _ => none }
def FnExactPublishEpochWrongFalsely : Prop := fnExactPublishEpochRow.holds Try.pinned (OpenSpec.ofChange fnExactPublishEpochWrong)

/- THE SECOND FORM. 'bulk': how many values and letters a reading holds, each counted each time it is reached (what is shared counts as often as it is met; a slice's spare places count too). A statement '..UptoSaid' is the law's where the arguments, and the package variables that the reading takes, are together of bulk at most 1048576: NARROWER than '..Said'. Prove '..Said' where nothing that the law and all that it calls make is longer than what came in: it says more and counts as full. Else prove '..UptoSaid'. A law counts once. -/
mutual
def uptoBulk {H : Type} : DataW H → Nat
  | .lit (.string bytes) => bytes.length + 1
  | .lit _ => 1
  | .nil => 1
  | .ptr d => uptoBulk d + 1
  | .slice elems spare => uptoBulkAll elems + uptoBulkAll spare + 1
  | .agg parts => uptoBulkAll parts + 1
  | .iface _ d => uptoBulk d + 1
  | .map entries => uptoBulkEntries entries + 1
  | .held _ => 1
def uptoBulkAll {H : Type} : List (DataW H) → Nat
  | [] => 0
  | d :: r => uptoBulk d + uptoBulkAll r
def uptoBulkEntries {H : Type} : List (Lit × DataW H) → Nat
  | [] => 0
  | x :: r => uptoBulkEntry x + uptoBulkEntries r
def uptoBulkEntry {H : Type} : Lit × DataW H → Nat
  | (.string bytes, d) => bytes.length + uptoBulk d + 1
  | (_, d) => uptoBulk d + 1
 end
def uptoSmall : (H : Type) → List (DataW H) → Bool := fun _ ds => decide (uptoBulkAll ds ≤ 1048576)
def OpenSpec.upto (s : _root_.Go.ChangeSpec) : _root_.Go.OpenSpec := { _root_.Go.OpenSpec.ofChange s with cond := some uptoSmall }

/-- 'laws.FnExactEqualPolicies', WHERE WHAT IT READS IS OF BULK AT MOST 1048576: true; the input reads as it did. -/
def fnExactEqualPoliciesUptoRow : OpenClaim := { program := "ytkcapoambnnekaa", sum := "0dee8dda668824123a2ebf1d566dfa6354b5c5962d4ee82195216a29521f998f", func := "loop.example/g00594/laws.FnExactEqualPolicies", spec := "fnExactEqualPolicies", unfollowed := true, recurses := true, loops := true, apart := false, narrowed := true }
def FnExactEqualPoliciesUptoSaid : Prop := fnExactEqualPoliciesUptoRow.holds Try.pinned (OpenSpec.upto fnExactEqualPoliciesSpec)

/-- 'laws.FnExactIsRule', WHERE WHAT IT READS IS OF BULK AT MOST 1048576: true; the input reads as it did. -/
def fnExactIsRuleUptoRow : OpenClaim := { program := "ytkcapoambnnekaa", sum := "0dee8dda668824123a2ebf1d566dfa6354b5c5962d4ee82195216a29521f998f", func := "loop.example/g00594/laws.FnExactIsRule", spec := "fnExactIsRule", unfollowed := true, recurses := true, loops := true, apart := false, narrowed := true }
def FnExactIsRuleUptoSaid : Prop := fnExactIsRuleUptoRow.holds Try.pinned (OpenSpec.upto fnExactIsRuleSpec)

/-- 'laws.FnExactNewestNumber', WHERE WHAT IT READS IS OF BULK AT MOST 1048576: true; the input reads as it did. -/
def fnExactNewestNumberUptoRow : OpenClaim := { program := "ytkcapoambnnekaa", sum := "0dee8dda668824123a2ebf1d566dfa6354b5c5962d4ee82195216a29521f998f", func := "loop.example/g00594/laws.FnExactNewestNumber", spec := "fnExactNewestNumber", recurses := true, loops := true, apart := false, narrowed := true }
def FnExactNewestNumberUptoSaid : Prop := fnExactNewestNumberUptoRow.holds Try.pinned (OpenSpec.upto fnExactNewestNumberSpec)

/-- 'laws.FnExactNumberAt', WHERE WHAT IT READS IS OF BULK AT MOST 1048576: true; the input reads as it did. -/
def fnExactNumberAtUptoRow : OpenClaim := { program := "ytkcapoambnnekaa", sum := "0dee8dda668824123a2ebf1d566dfa6354b5c5962d4ee82195216a29521f998f", func := "loop.example/g00594/laws.FnExactNumberAt", spec := "fnExactNumberAt", recurses := true, loops := true, apart := false, narrowed := true }
def FnExactNumberAtUptoSaid : Prop := fnExactNumberAtUptoRow.holds Try.pinned (OpenSpec.upto fnExactNumberAtSpec)

/-- 'laws.FnExactFindEpoch', WHERE WHAT IT READS IS OF BULK AT MOST 1048576: true; the input reads as it did. -/
def fnExactFindEpochUptoRow : OpenClaim := { program := "ytkcapoambnnekaa", sum := "0dee8dda668824123a2ebf1d566dfa6354b5c5962d4ee82195216a29521f998f", func := "loop.example/g00594/laws.FnExactFindEpoch", spec := "fnExactFindEpoch", unfollowed := true, recurses := true, loops := true, apart := false, narrowed := true }
def FnExactFindEpochUptoSaid : Prop := fnExactFindEpochUptoRow.holds Try.pinned (OpenSpec.upto fnExactFindEpochSpec)

/-- 'laws.FnExactIsPolicy', WHERE WHAT IT READS IS OF BULK AT MOST 1048576: true; the input reads as it did. -/
def fnExactIsPolicyUptoRow : OpenClaim := { program := "ytkcapoambnnekaa", sum := "0dee8dda668824123a2ebf1d566dfa6354b5c5962d4ee82195216a29521f998f", func := "loop.example/g00594/laws.FnExactIsPolicy", spec := "fnExactIsPolicy", unfollowed := true, recurses := true, loops := true, apart := false, narrowed := true }
def FnExactIsPolicyUptoSaid : Prop := fnExactIsPolicyUptoRow.holds Try.pinned (OpenSpec.upto fnExactIsPolicySpec)

/-- 'laws.FnExactWithoutRule', WHERE WHAT IT READS IS OF BULK AT MOST 1048576: true; the input reads as it did. -/
def fnExactWithoutRuleUptoRow : OpenClaim := { program := "ytkcapoambnnekaa", sum := "0dee8dda668824123a2ebf1d566dfa6354b5c5962d4ee82195216a29521f998f", func := "loop.example/g00594/laws.FnExactWithoutRule", spec := "fnExactWithoutRule", recurses := true, loops := true, apart := false, narrowed := true }
def FnExactWithoutRuleUptoSaid : Prop := fnExactWithoutRuleUptoRow.holds Try.pinned (OpenSpec.upto fnExactWithoutRuleSpec)

/-- 'laws.FnExactEqualEpochs', WHERE WHAT IT READS IS OF BULK AT MOST 1048576: true; the input reads as it did. -/
def fnExactEqualEpochsUptoRow : OpenClaim := { program := "ytkcapoambnnekaa", sum := "0dee8dda668824123a2ebf1d566dfa6354b5c5962d4ee82195216a29521f998f", func := "loop.example/g00594/laws.FnExactEqualEpochs", spec := "fnExactEqualEpochs", unfollowed := true, recurses := true, loops := true, apart := false, narrowed := true }
def FnExactEqualEpochsUptoSaid : Prop := fnExactEqualEpochsUptoRow.holds Try.pinned (OpenSpec.upto fnExactEqualEpochsSpec)

/-- 'laws.FnExactTakeLease', WHERE WHAT IT READS IS OF BULK AT MOST 1048576: true; the input reads as it did. -/
def fnExactTakeLeaseUptoRow : OpenClaim := { program := "ytkcapoambnnekaa", sum := "0dee8dda668824123a2ebf1d566dfa6354b5c5962d4ee82195216a29521f998f", func := "loop.example/g00594/laws.FnExactTakeLease", spec := "fnExactTakeLease", recurses := true, loops := true, apart := false, narrowed := true }
def FnExactTakeLeaseUptoSaid : Prop := fnExactTakeLeaseUptoRow.holds Try.pinned (OpenSpec.upto fnExactTakeLeaseSpec)

/-- 'laws.FnExactIsEpoch', WHERE WHAT IT READS IS OF BULK AT MOST 1048576: true; the input reads as it did. -/
def fnExactIsEpochUptoRow : OpenClaim := { program := "ytkcapoambnnekaa", sum := "0dee8dda668824123a2ebf1d566dfa6354b5c5962d4ee82195216a29521f998f", func := "loop.example/g00594/laws.FnExactIsEpoch", spec := "fnExactIsEpoch", unfollowed := true, recurses := true, loops := true, apart := false, narrowed := true }
def FnExactIsEpochUptoSaid : Prop := fnExactIsEpochUptoRow.holds Try.pinned (OpenSpec.upto fnExactIsEpochSpec)

/-- 'laws.FnExactAreEpochs', WHERE WHAT IT READS IS OF BULK AT MOST 1048576: true; the input reads as it did. -/
def fnExactAreEpochsUptoRow : OpenClaim := { program := "ytkcapoambnnekaa", sum := "0dee8dda668824123a2ebf1d566dfa6354b5c5962d4ee82195216a29521f998f", func := "loop.example/g00594/laws.FnExactAreEpochs", spec := "fnExactAreEpochs", unfollowed := true, recurses := true, loops := true, apart := false, narrowed := true }
def FnExactAreEpochsUptoSaid : Prop := fnExactAreEpochsUptoRow.holds Try.pinned (OpenSpec.upto fnExactAreEpochsSpec)

/-- 'laws.FnExactPublishEpoch', WHERE WHAT IT READS IS OF BULK AT MOST 1048576: true; the input reads as it did. -/
def fnExactPublishEpochUptoRow : OpenClaim := { program := "ytkcapoambnnekaa", sum := "0dee8dda668824123a2ebf1d566dfa6354b5c5962d4ee82195216a29521f998f", func := "loop.example/g00594/laws.FnExactPublishEpoch", spec := "fnExactPublishEpoch", unfollowed := true, recurses := true, loops := true, apart := false, narrowed := true }
def FnExactPublishEpochUptoSaid : Prop := fnExactPublishEpochUptoRow.holds Try.pinned (OpenSpec.upto fnExactPublishEpochSpec)

end Rows
end Go.Proofs.Ytkcapoambnnekaa
