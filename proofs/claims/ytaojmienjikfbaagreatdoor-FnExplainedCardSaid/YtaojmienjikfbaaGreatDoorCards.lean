/-
  DERIVED. GIVEN WITH THE SEED: THE CARDS: each row of YtaojmienjikfbaaGreatDoorRows.lean that lists a variable, with what it lists TIED to the program's text (the seventh form; the later family's looks); each row that meets fmt, with fmt's text TOLD by the authors' own Lean function (tested against real Go, not proved from fmt's source: count such statements apart). THE CARD IS WHAT COUNTS. Prove the row's statement (the work); the ties are given (YtaojmienjikfbaaGreatDoorTie.lean); close each card by the builder's one call (the guide's Derived/Test/ToyasCard.lean, 'card_holds'). Laid BY PROGRAM, IN A SANDBOX (cutbox-door.mjs). By AI agents, Wed Nov 11 2026. No macro, syntax, notation, axiom, sorry.
-/
import Derived.Test.YtaojmienjikfbaaGreatDoorRows
import GoSem.ClaimSeven
namespace Go.Proofs.YtaojmienjikfbaaGreatDoor
namespace Rows

/-- THE TIED CARD OF 'laws.FnExactReasonOf'. -/
def fnExactReasonOfCard : Claim7 := { stood := { row := fnExactReasonOfRow, standIns := [], harness := (true, "5dfe7be4facaa6ef53913a5094d30a68aaefd3c7d5102dbfff0fd459e050bb37"), looks := false }, kinds := [], alts := [], laidByText := true, laidKinds := [.data, .data, .data], laidTests := true, laidLooks := .later }
def FnExactReasonOfCardSaid : Prop := Claim7.holds Tryz.pinned (.plain (OpenSpec.ofChange fnExactReasonOfSpec)) fnExactReasonOfCard

/-- THE TIED CARD OF 'laws.FnExplained'. -/
def fnExplainedCard : Claim7 := { stood := { row := fnExplainedRow, standIns := [], harness := (true, "5dfe7be4facaa6ef53913a5094d30a68aaefd3c7d5102dbfff0fd459e050bb37"), looks := false }, kinds := [], alts := [], laidByText := true, laidKinds := [.data, .data, .data], laidTests := true, laidLooks := .later }
def FnExplainedCardSaid : Prop := Claim7.holds Tryz.pinned (.plain (OpenSpec.ofChange fnExplainedSpec)) fnExplainedCard

/-- THE SECOND FORM's CARD OF 'laws.FnExactReasonOf'. -/
def fnExactReasonOfUptoCard : Claim7 := { stood := { row := fnExactReasonOfUptoRow, standIns := [], harness := (true, "5dfe7be4facaa6ef53913a5094d30a68aaefd3c7d5102dbfff0fd459e050bb37"), looks := false }, kinds := [], alts := [], laidByText := true, laidKinds := [.data, .data, .data], laidTests := true, laidLooks := .later }
def FnExactReasonOfUptoCardSaid : Prop := Claim7.holds Tryz.pinned (.plain (OpenSpec.upto fnExactReasonOfSpec)) fnExactReasonOfUptoCard

/-- THE SECOND FORM's CARD OF 'laws.FnExplained'. -/
def fnExplainedUptoCard : Claim7 := { stood := { row := fnExplainedUptoRow, standIns := [], harness := (true, "5dfe7be4facaa6ef53913a5094d30a68aaefd3c7d5102dbfff0fd459e050bb37"), looks := false }, kinds := [], alts := [], laidByText := true, laidKinds := [.data, .data, .data], laidTests := true, laidLooks := .later }
def FnExplainedUptoCardSaid : Prop := Claim7.holds Tryz.pinned (.plain (OpenSpec.upto fnExplainedSpec)) fnExplainedUptoCard
end Rows
end Go.Proofs.YtaojmienjikfbaaGreatDoor
