/-
  DERIVED. GIVEN WITH THE SEED: THE CARDS: each row of YtpaddkkfefgkfaaDoorRows.lean that lists a variable, with what it lists TIED to the program's text (the seventh form; the later family's looks); each row that meets fmt, with fmt's text TOLD by the authors' own Lean function (tested against real Go, not proved from fmt's source: count such statements apart). THE CARD IS WHAT COUNTS. Prove the row's statement (the work); the ties are given (YtpaddkkfefgkfaaDoorTie.lean); close each card by the builder's one call (the guide's Derived/Test/ToyasCard.lean, 'card_holds'). Laid BY PROGRAM, IN A SANDBOX (cutbox-door.mjs). By AI agents, Wed Nov 11 2026. No macro, syntax, notation, axiom, sorry.
-/
import Derived.Test.YtpaddkkfefgkfaaDoorRows
import GoSem.ClaimSeven
namespace Go.Proofs.YtpaddkkfefgkfaaDoor
namespace Rows

/-- THE TIED CARD OF 'linotypelaw23.ExprFree'. -/
def exprFreeCard : Claim7 := { stood := { row := exprFreeRow, standIns := [], harness := (true, "a945322cb877bda5c9dfd2181554ca085bba4c5a7a3336c19406c422f56a3ef9"), looks := false }, kinds := [], alts := [], laidByText := true, laidKinds := [.data], laidTests := true, laidLooks := .later }
def ExprFreeCardSaid : Prop := Claim7.holds Tryd.pinned (.plain (OpenSpec.ofChange exprFreeSpec)) exprFreeCard

/-- THE TIED CARD OF 'linotypelaw23.ExprBack'. -/
def exprBackCard : Claim7 := { stood := { row := exprBackRow, standIns := [], harness := (true, "a945322cb877bda5c9dfd2181554ca085bba4c5a7a3336c19406c422f56a3ef9"), looks := false }, kinds := [], alts := [], laidByText := true, laidKinds := [.data], laidTests := true, laidLooks := .later }
def ExprBackCardSaid : Prop := Claim7.holds Tryd.pinned (.plain (OpenSpec.ofChange exprBackSpec)) exprBackCard

/-- THE SECOND FORM's CARD OF 'linotypelaw23.ExprFree'. -/
def exprFreeUptoCard : Claim7 := { stood := { row := exprFreeUptoRow, standIns := [], harness := (true, "a945322cb877bda5c9dfd2181554ca085bba4c5a7a3336c19406c422f56a3ef9"), looks := false }, kinds := [], alts := [], laidByText := true, laidKinds := [.data], laidTests := true, laidLooks := .later }
def ExprFreeUptoCardSaid : Prop := Claim7.holds Tryd.pinned (.plain (OpenSpec.upto exprFreeSpec)) exprFreeUptoCard

/-- THE SECOND FORM's CARD OF 'linotypelaw23.ExprBack'. -/
def exprBackUptoCard : Claim7 := { stood := { row := exprBackUptoRow, standIns := [], harness := (true, "a945322cb877bda5c9dfd2181554ca085bba4c5a7a3336c19406c422f56a3ef9"), looks := false }, kinds := [], alts := [], laidByText := true, laidKinds := [.data], laidTests := true, laidLooks := .later }
def ExprBackUptoCardSaid : Prop := Claim7.holds Tryd.pinned (.plain (OpenSpec.upto exprBackSpec)) exprBackUptoCard
end Rows
end Go.Proofs.YtpaddkkfefgkfaaDoor
