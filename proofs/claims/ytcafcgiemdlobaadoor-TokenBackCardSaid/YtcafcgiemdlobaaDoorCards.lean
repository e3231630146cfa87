/-
  DERIVED. GIVEN WITH THE SEED: THE CARDS: each row of YtcafcgiemdlobaaDoorRows.lean that lists a variable, with what it lists TIED to the program's text (the seventh form; the later family's looks); each row that meets fmt, with fmt's text TOLD by the authors' own Lean function (tested against real Go, not proved from fmt's source: count such statements apart). THE CARD IS WHAT COUNTS. Prove the row's statement (the work); the ties are given (YtcafcgiemdlobaaDoorTie.lean); close each card by the builder's one call (the guide's Derived/Test/ToyasCard.lean, 'card_holds'). Laid BY PROGRAM, IN A SANDBOX (cutbox-door.mjs). By AI agents, Wed Nov 11 2026. No macro, syntax, notation, axiom, sorry.
-/
import Derived.Test.YtcafcgiemdlobaaDoorRows
import GoSem.ClaimSeven
namespace Go.Proofs.YtcafcgiemdlobaaDoor
namespace Rows

/-- THE TIED CARD OF 'linotypelaw22.TokenBlanks'. -/
def tokenBlanksCard : Claim7 := { stood := { row := tokenBlanksRow, standIns := [], harness := (true, "6912e14e399379550f19facbee34d8e3dbad7aa93afc7a870fcd7437c9eecdf8"), looks := false }, kinds := [], alts := [], laidByText := true, laidKinds := [.data], laidTests := true, laidLooks := .later }
def TokenBlanksCardSaid : Prop := Claim7.holds Tryd.pinned (.plain (OpenSpec.ofChange tokenBlanksSpec)) tokenBlanksCard

/-- THE TIED CARD OF 'linotypelaw22.TokenParts'. -/
def tokenPartsCard : Claim7 := { stood := { row := tokenPartsRow, standIns := [], harness := (true, "6912e14e399379550f19facbee34d8e3dbad7aa93afc7a870fcd7437c9eecdf8"), looks := false }, kinds := [], alts := [], laidByText := true, laidKinds := [.data], laidTests := true, laidLooks := .later }
def TokenPartsCardSaid : Prop := Claim7.holds Tryd.pinned (.plain (OpenSpec.ofChange tokenPartsSpec)) tokenPartsCard

/-- THE TIED CARD OF 'linotypelaw02.LiteralScans'. -/
def literalScansCard : Claim7 := { stood := { row := literalScansRow, standIns := [], harness := (true, "6912e14e399379550f19facbee34d8e3dbad7aa93afc7a870fcd7437c9eecdf8"), looks := false }, kinds := [], alts := [], laidByText := true, laidKinds := [.data, .data, .data], laidTests := true, laidLooks := .later }
def LiteralScansCardSaid : Prop := Claim7.holds Tryd.pinned (.plain (OpenSpec.ofChange literalScansSpec)) literalScansCard

/-- THE TIED CARD OF 'linotypelaw02.LiteralTells'. -/
def literalTellsCard : Claim7 := { stood := { row := literalTellsRow, standIns := [], harness := (true, "6912e14e399379550f19facbee34d8e3dbad7aa93afc7a870fcd7437c9eecdf8"), looks := false }, kinds := [], alts := [], laidByText := true, laidKinds := [.data, .data, .data], laidTests := true, laidLooks := .later }
def LiteralTellsCardSaid : Prop := Claim7.holds Tryd.pinned (.plain (OpenSpec.ofChange literalTellsSpec)) literalTellsCard

/-- THE TIED CARD OF 'linotypelaw02.LiteralBack'. -/
def literalBackCard : Claim7 := { stood := { row := literalBackRow, standIns := [], harness := (true, "6912e14e399379550f19facbee34d8e3dbad7aa93afc7a870fcd7437c9eecdf8"), looks := false }, kinds := [], alts := [], laidByText := true, laidKinds := [.data, .data, .data], laidTests := true, laidLooks := .later }
def LiteralBackCardSaid : Prop := Claim7.holds Tryd.pinned (.plain (OpenSpec.ofChange literalBackSpec)) literalBackCard

/-- THE TIED CARD OF 'linotypelaw02.LiteralSpelled'. -/
def literalSpelledCard : Claim7 := { stood := { row := literalSpelledRow, standIns := [], harness := (true, "6912e14e399379550f19facbee34d8e3dbad7aa93afc7a870fcd7437c9eecdf8"), looks := false }, kinds := [], alts := [], laidByText := true, laidKinds := [.data, .data, .data], laidTests := true, laidLooks := .later }
def LiteralSpelledCardSaid : Prop := Claim7.holds Tryd.pinned (.plain (OpenSpec.ofChange literalSpelledSpec)) literalSpelledCard

/-- THE TIED CARD OF 'linotypelaw02.LiteralBytes'. -/
def literalBytesCard : Claim7 := { stood := { row := literalBytesRow, standIns := [], harness := (true, "6912e14e399379550f19facbee34d8e3dbad7aa93afc7a870fcd7437c9eecdf8"), looks := false }, kinds := [], alts := [], laidByText := true, laidKinds := [.data, .data, .data], laidTests := true, laidLooks := .later }
def LiteralBytesCardSaid : Prop := Claim7.holds Tryd.pinned (.plain (OpenSpec.ofChange literalBytesSpec)) literalBytesCard

/-- THE TIED CARD OF 'linotypelaw02.LiteralKnown'. -/
def literalKnownCard : Claim7 := { stood := { row := literalKnownRow, standIns := [], harness := (true, "6912e14e399379550f19facbee34d8e3dbad7aa93afc7a870fcd7437c9eecdf8"), looks := false }, kinds := [], alts := [], laidByText := true, laidKinds := [.data, .data, .data], laidTests := true, laidLooks := .later }
def LiteralKnownCardSaid : Prop := Claim7.holds Tryd.pinned (.plain (OpenSpec.ofChange literalKnownSpec)) literalKnownCard

/-- THE TIED CARD OF 'linotypelaw22.TokenWrites'. -/
def tokenWritesCard : Claim7 := { stood := { row := tokenWritesRow, standIns := [], harness := (true, "6912e14e399379550f19facbee34d8e3dbad7aa93afc7a870fcd7437c9eecdf8"), looks := false }, kinds := [], alts := [], laidByText := true, laidKinds := [.data, .data, .data, .data], laidTests := true, laidLooks := .later }
def TokenWritesCardSaid : Prop := Claim7.holds Tryd.pinned (.plain (OpenSpec.ofChange tokenWritesSpec)) tokenWritesCard

/-- THE TIED CARD OF 'linotypelaw22.TokenBack'. -/
def tokenBackCard : Claim7 := { stood := { row := tokenBackRow, standIns := [], harness := (true, "6912e14e399379550f19facbee34d8e3dbad7aa93afc7a870fcd7437c9eecdf8"), looks := false }, kinds := [], alts := [], laidByText := true, laidKinds := [.data, .data, .data, .data], laidTests := true, laidLooks := .later }
def TokenBackCardSaid : Prop := Claim7.holds Tryd.pinned (.plain (OpenSpec.ofChange tokenBackSpec)) tokenBackCard

/-- THE TIED CARD OF 'linotypelaw22.TokenKnown'. -/
def tokenKnownCard : Claim7 := { stood := { row := tokenKnownRow, standIns := [], harness := (true, "6912e14e399379550f19facbee34d8e3dbad7aa93afc7a870fcd7437c9eecdf8"), looks := false }, kinds := [], alts := [], laidByText := true, laidKinds := [.data, .data, .data, .data], laidTests := true, laidLooks := .later }
def TokenKnownCardSaid : Prop := Claim7.holds Tryd.pinned (.plain (OpenSpec.ofChange tokenKnownSpec)) tokenKnownCard

/-- THE SECOND FORM's CARD OF 'linotypelaw22.TokenBlanks'. -/
def tokenBlanksUptoCard : Claim7 := { stood := { row := tokenBlanksUptoRow, standIns := [], harness := (true, "6912e14e399379550f19facbee34d8e3dbad7aa93afc7a870fcd7437c9eecdf8"), looks := false }, kinds := [], alts := [], laidByText := true, laidKinds := [.data], laidTests := true, laidLooks := .later }
def TokenBlanksUptoCardSaid : Prop := Claim7.holds Tryd.pinned (.plain (OpenSpec.upto tokenBlanksSpec)) tokenBlanksUptoCard

/-- THE SECOND FORM's CARD OF 'linotypelaw22.TokenParts'. -/
def tokenPartsUptoCard : Claim7 := { stood := { row := tokenPartsUptoRow, standIns := [], harness := (true, "6912e14e399379550f19facbee34d8e3dbad7aa93afc7a870fcd7437c9eecdf8"), looks := false }, kinds := [], alts := [], laidByText := true, laidKinds := [.data], laidTests := true, laidLooks := .later }
def TokenPartsUptoCardSaid : Prop := Claim7.holds Tryd.pinned (.plain (OpenSpec.upto tokenPartsSpec)) tokenPartsUptoCard

/-- THE SECOND FORM's CARD OF 'linotypelaw02.LiteralScans'. -/
def literalScansUptoCard : Claim7 := { stood := { row := literalScansUptoRow, standIns := [], harness := (true, "6912e14e399379550f19facbee34d8e3dbad7aa93afc7a870fcd7437c9eecdf8"), looks := false }, kinds := [], alts := [], laidByText := true, laidKinds := [.data, .data, .data], laidTests := true, laidLooks := .later }
def LiteralScansUptoCardSaid : Prop := Claim7.holds Tryd.pinned (.plain (OpenSpec.upto literalScansSpec)) literalScansUptoCard

/-- THE SECOND FORM's CARD OF 'linotypelaw02.LiteralTells'. -/
def literalTellsUptoCard : Claim7 := { stood := { row := literalTellsUptoRow, standIns := [], harness := (true, "6912e14e399379550f19facbee34d8e3dbad7aa93afc7a870fcd7437c9eecdf8"), looks := false }, kinds := [], alts := [], laidByText := true, laidKinds := [.data, .data, .data], laidTests := true, laidLooks := .later }
def LiteralTellsUptoCardSaid : Prop := Claim7.holds Tryd.pinned (.plain (OpenSpec.upto literalTellsSpec)) literalTellsUptoCard

/-- THE SECOND FORM's CARD OF 'linotypelaw02.LiteralBack'. -/
def literalBackUptoCard : Claim7 := { stood := { row := literalBackUptoRow, standIns := [], harness := (true, "6912e14e399379550f19facbee34d8e3dbad7aa93afc7a870fcd7437c9eecdf8"), looks := false }, kinds := [], alts := [], laidByText := true, laidKinds := [.data, .data, .data], laidTests := true, laidLooks := .later }
def LiteralBackUptoCardSaid : Prop := Claim7.holds Tryd.pinned (.plain (OpenSpec.upto literalBackSpec)) literalBackUptoCard

/-- THE SECOND FORM's CARD OF 'linotypelaw02.LiteralSpelled'. -/
def literalSpelledUptoCard : Claim7 := { stood := { row := literalSpelledUptoRow, standIns := [], harness := (true, "6912e14e399379550f19facbee34d8e3dbad7aa93afc7a870fcd7437c9eecdf8"), looks := false }, kinds := [], alts := [], laidByText := true, laidKinds := [.data, .data, .data], laidTests := true, laidLooks := .later }
def LiteralSpelledUptoCardSaid : Prop := Claim7.holds Tryd.pinned (.plain (OpenSpec.upto literalSpelledSpec)) literalSpelledUptoCard

/-- THE SECOND FORM's CARD OF 'linotypelaw02.LiteralBytes'. -/
def literalBytesUptoCard : Claim7 := { stood := { row := literalBytesUptoRow, standIns := [], harness := (true, "6912e14e399379550f19facbee34d8e3dbad7aa93afc7a870fcd7437c9eecdf8"), looks := false }, kinds := [], alts := [], laidByText := true, laidKinds := [.data, .data, .data], laidTests := true, laidLooks := .later }
def LiteralBytesUptoCardSaid : Prop := Claim7.holds Tryd.pinned (.plain (OpenSpec.upto literalBytesSpec)) literalBytesUptoCard

/-- THE SECOND FORM's CARD OF 'linotypelaw02.LiteralKnown'. -/
def literalKnownUptoCard : Claim7 := { stood := { row := literalKnownUptoRow, standIns := [], harness := (true, "6912e14e399379550f19facbee34d8e3dbad7aa93afc7a870fcd7437c9eecdf8"), looks := false }, kinds := [], alts := [], laidByText := true, laidKinds := [.data, .data, .data], laidTests := true, laidLooks := .later }
def LiteralKnownUptoCardSaid : Prop := Claim7.holds Tryd.pinned (.plain (OpenSpec.upto literalKnownSpec)) literalKnownUptoCard

/-- THE SECOND FORM's CARD OF 'linotypelaw22.TokenWrites'. -/
def tokenWritesUptoCard : Claim7 := { stood := { row := tokenWritesUptoRow, standIns := [], harness := (true, "6912e14e399379550f19facbee34d8e3dbad7aa93afc7a870fcd7437c9eecdf8"), looks := false }, kinds := [], alts := [], laidByText := true, laidKinds := [.data, .data, .data, .data], laidTests := true, laidLooks := .later }
def TokenWritesUptoCardSaid : Prop := Claim7.holds Tryd.pinned (.plain (OpenSpec.upto tokenWritesSpec)) tokenWritesUptoCard

/-- THE SECOND FORM's CARD OF 'linotypelaw22.TokenBack'. -/
def tokenBackUptoCard : Claim7 := { stood := { row := tokenBackUptoRow, standIns := [], harness := (true, "6912e14e399379550f19facbee34d8e3dbad7aa93afc7a870fcd7437c9eecdf8"), looks := false }, kinds := [], alts := [], laidByText := true, laidKinds := [.data, .data, .data, .data], laidTests := true, laidLooks := .later }
def TokenBackUptoCardSaid : Prop := Claim7.holds Tryd.pinned (.plain (OpenSpec.upto tokenBackSpec)) tokenBackUptoCard

/-- THE SECOND FORM's CARD OF 'linotypelaw22.TokenKnown'. -/
def tokenKnownUptoCard : Claim7 := { stood := { row := tokenKnownUptoRow, standIns := [], harness := (true, "6912e14e399379550f19facbee34d8e3dbad7aa93afc7a870fcd7437c9eecdf8"), looks := false }, kinds := [], alts := [], laidByText := true, laidKinds := [.data, .data, .data, .data], laidTests := true, laidLooks := .later }
def TokenKnownUptoCardSaid : Prop := Claim7.holds Tryd.pinned (.plain (OpenSpec.upto tokenKnownSpec)) tokenKnownUptoCard
end Rows
end Go.Proofs.YtcafcgiemdlobaaDoor
