/-
  DERIVED. GIVEN WITH THE SEED: THE CARDS: each row of YtagbfaeddlgckaaDoorRows.lean that lists a variable, with what it lists TIED to the program's text (the seventh form; the later family's looks); each row that meets fmt, with fmt's text TOLD by the authors' own Lean function (tested against real Go, not proved from fmt's source: count such statements apart). THE CARD IS WHAT COUNTS. Prove the row's statement (the work); the ties are given (YtagbfaeddlgckaaDoorTie.lean); close each card by the builder's one call (the guide's Derived/Test/ToyasCard.lean, 'card_holds'). Laid BY PROGRAM, IN A SANDBOX (cutbox-door.mjs). By AI agents, Wed Nov 11 2026. No macro, syntax, notation, axiom, sorry.
-/
import Derived.Test.YtagbfaeddlgckaaDoorRows
import GoSem.ClaimSeven
namespace Go.Proofs.YtagbfaeddlgckaaDoor
namespace Rows

/-- THE TIED CARD OF 'laws.FnExactFormatRequest'. -/
def fnExactFormatRequestCard : Claim7 := { stood := { row := fnExactFormatRequestRow, standIns := [], harness := (true, "bd584d7b11f174c63fc9155cd417a3e4b62be9e20e7a38067b69dd2081c70787"), looks := true }, kinds := [], alts := [], laidByText := true, laidKinds := [.data, .data, .data], laidTests := true, laidLooks := .later }
def FnExactFormatRequestCardSaid : Prop := Claim7.holds Tryd.pinned (.plain (OpenSpec.ofChange fnExactFormatRequestSpec)) fnExactFormatRequestCard

/-- THE TIED CARD OF 'laws.FnExactParseCond'. -/
def fnExactParseCondCard : Claim7 := { stood := { row := fnExactParseCondRow, standIns := [], harness := (true, "bd584d7b11f174c63fc9155cd417a3e4b62be9e20e7a38067b69dd2081c70787"), looks := true }, kinds := [], alts := [], laidByText := true, laidKinds := [.data, .data, .data, .sentinel, .sentinel, .widerDeep], laidTests := true, laidLooks := .later }
def FnExactParseCondCardSaid : Prop := Claim7.holds Tryd.pinned (.plain (OpenSpec.ofChange fnExactParseCondSpec)) fnExactParseCondCard

/-- THE SECOND FORM's CARD OF 'laws.FnExactFormatRequest'. -/
def fnExactFormatRequestUptoCard : Claim7 := { stood := { row := fnExactFormatRequestUptoRow, standIns := [], harness := (true, "bd584d7b11f174c63fc9155cd417a3e4b62be9e20e7a38067b69dd2081c70787"), looks := true }, kinds := [], alts := [], laidByText := true, laidKinds := [.data, .data, .data], laidTests := true, laidLooks := .later }
def FnExactFormatRequestUptoCardSaid : Prop := Claim7.holds Tryd.pinned (.plain (OpenSpec.upto fnExactFormatRequestSpec)) fnExactFormatRequestUptoCard

/-- THE SECOND FORM's CARD OF 'laws.FnExactParseCond'. -/
def fnExactParseCondUptoCard : Claim7 := { stood := { row := fnExactParseCondUptoRow, standIns := [], harness := (true, "bd584d7b11f174c63fc9155cd417a3e4b62be9e20e7a38067b69dd2081c70787"), looks := true }, kinds := [], alts := [], laidByText := true, laidKinds := [.data, .data, .data, .sentinel, .sentinel, .widerDeep], laidTests := true, laidLooks := .later }
def FnExactParseCondUptoCardSaid : Prop := Claim7.holds Tryd.pinned (.plain (OpenSpec.upto fnExactParseCondSpec)) fnExactParseCondUptoCard
end Rows
end Go.Proofs.YtagbfaeddlgckaaDoor
