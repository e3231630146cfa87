/-
  DERIVED. GIVEN WITH THE SEED: THE CARDS: each row of YtpaddkkfefgkfaaGreatDoorRows.lean that lists a variable, with what it lists TIED to the program's text (the seventh form; the later family's looks); each row that meets fmt, with fmt's text TOLD by the authors' own Lean function (tested against real Go, not proved from fmt's source: count such statements apart). THE CARD IS WHAT COUNTS. Prove the row's statement (the work); the ties are given (YtpaddkkfefgkfaaGreatDoorTie.lean); close each card by the builder's one call (the guide's Derived/Test/ToyasCard.lean, 'card_holds'). Laid BY PROGRAM, IN A SANDBOX (cutbox-door.mjs). By AI agents, Wed Nov 11 2026. No macro, syntax, notation, axiom, sorry.
-/
import Derived.Test.YtpaddkkfefgkfaaGreatDoorRows
import GoSem.ClaimSeven
namespace Go.Proofs.YtpaddkkfefgkfaaGreatDoor
namespace Rows

/-- THE TIED CARD OF 'linotypelaw25.LineNames'. -/
def lineNamesCard : Claim7 := { stood := { row := lineNamesRow, standIns := [], harness := (true, "bc3286729510592b51449412ff59556d32ef40e7873c17ccf4409e23baa7cd8d"), looks := false }, kinds := [], alts := [], laidByText := true, laidKinds := [.data, .listed, .data, .data, .pinned], laidTests := true, laidLooks := .later }
def LineNamesCardSaid : Prop := Claim7.holds Tryz.pinned (.plain (OpenSpec.ofChange lineNamesSpec)) lineNamesCard

/-- THE TIED CARD OF 'linotypelaw24.ParseKnown'. -/
def parseKnownCard : Claim7 := { stood := { row := parseKnownRow, standIns := [], harness := (true, "bc3286729510592b51449412ff59556d32ef40e7873c17ccf4409e23baa7cd8d"), looks := false }, kinds := [], alts := [], laidByText := true, laidKinds := [.data, .listed, .data, .data, .pinned], laidTests := true, laidLooks := .later }
def ParseKnownCardSaid : Prop := Claim7.holds Tryz.pinned (.plain (OpenSpec.ofChange parseKnownSpec)) parseKnownCard

/-- THE TIED CARD OF 'linotypelaw25.LineNumbers'. -/
def lineNumbersCard : Claim7 := { stood := { row := lineNumbersRow, standIns := [], harness := (true, "bc3286729510592b51449412ff59556d32ef40e7873c17ccf4409e23baa7cd8d"), looks := false }, kinds := [], alts := [], laidByText := true, laidKinds := [.data, .data, .data, .data, .listed, .data, .data, .pinned], laidTests := true, laidLooks := .later }
def LineNumbersCardSaid : Prop := Claim7.holds Tryz.pinned (.plain (OpenSpec.ofChange lineNumbersSpec)) lineNumbersCard

/-- THE TIED CARD OF 'linotypelaw25.LineBlanks'. -/
def lineBlanksCard : Claim7 := { stood := { row := lineBlanksRow, standIns := [], harness := (true, "bc3286729510592b51449412ff59556d32ef40e7873c17ccf4409e23baa7cd8d"), looks := false }, kinds := [], alts := [], laidByText := true, laidKinds := [.data, .data, .data, .data, .listed, .data, .data, .pinned], laidTests := true, laidLooks := .later }
def LineBlanksCardSaid : Prop := Claim7.holds Tryz.pinned (.plain (OpenSpec.ofChange lineBlanksSpec)) lineBlanksCard

/-- THE TIED CARD OF 'linotypelaw24.ParseOperands'. -/
def parseOperandsCard : Claim7 := { stood := { row := parseOperandsRow, standIns := [], harness := (true, "bc3286729510592b51449412ff59556d32ef40e7873c17ccf4409e23baa7cd8d"), looks := false }, kinds := [], alts := [], laidByText := true, laidKinds := [.data, .data, .data, .data, .listed, .data, .data, .pinned], laidTests := true, laidLooks := .later }
def ParseOperandsCardSaid : Prop := Claim7.holds Tryz.pinned (.plain (OpenSpec.ofChange parseOperandsSpec)) parseOperandsCard

/-- THE TIED CARD OF 'linotypelaw24.ParsePlaces'. -/
def parsePlacesCard : Claim7 := { stood := { row := parsePlacesRow, standIns := [], harness := (true, "bc3286729510592b51449412ff59556d32ef40e7873c17ccf4409e23baa7cd8d"), looks := false }, kinds := [], alts := [], laidByText := true, laidKinds := [.data, .data, .data, .data, .listed, .data, .data, .pinned], laidTests := true, laidLooks := .later }
def ParsePlacesCardSaid : Prop := Claim7.holds Tryz.pinned (.plain (OpenSpec.ofChange parsePlacesSpec)) parsePlacesCard

/-- THE TIED CARD OF 'linotypelaw24.ParseBlanks'. -/
def parseBlanksCard : Claim7 := { stood := { row := parseBlanksRow, standIns := [], harness := (true, "bc3286729510592b51449412ff59556d32ef40e7873c17ccf4409e23baa7cd8d"), looks := false }, kinds := [], alts := [], laidByText := true, laidKinds := [.data, .data, .data, .data, .listed, .data, .data, .pinned], laidTests := true, laidLooks := .later }
def ParseBlanksCardSaid : Prop := Claim7.holds Tryz.pinned (.plain (OpenSpec.ofChange parseBlanksSpec)) parseBlanksCard

/-- THE TIED CARD OF 'linotypelaw25.LineBack'. -/
def lineBackCard : Claim7 := { stood := { row := lineBackRow, standIns := [], harness := (true, "bc3286729510592b51449412ff59556d32ef40e7873c17ccf4409e23baa7cd8d"), looks := false }, kinds := [], alts := [], laidByText := true, laidKinds := [.data, .data, .data, .data, .listed, .data, .data, .pinned], laidTests := true, laidLooks := .later }
def LineBackCardSaid : Prop := Claim7.holds Tryz.pinned (.plain (OpenSpec.ofChange lineBackSpec)) lineBackCard

/-- THE TIED CARD OF 'linotypelaw25.LineKnown'. -/
def lineKnownCard : Claim7 := { stood := { row := lineKnownRow, standIns := [], harness := (true, "bc3286729510592b51449412ff59556d32ef40e7873c17ccf4409e23baa7cd8d"), looks := false }, kinds := [], alts := [], laidByText := true, laidKinds := [.data, .data, .data, .data, .listed, .data, .data, .pinned], laidTests := true, laidLooks := .later }
def LineKnownCardSaid : Prop := Claim7.holds Tryz.pinned (.plain (OpenSpec.ofChange lineKnownSpec)) lineKnownCard

/-- THE SECOND FORM's CARD OF 'linotypelaw25.LineNames'. -/
def lineNamesUptoCard : Claim7 := { stood := { row := lineNamesUptoRow, standIns := [], harness := (true, "bc3286729510592b51449412ff59556d32ef40e7873c17ccf4409e23baa7cd8d"), looks := false }, kinds := [], alts := [], laidByText := true, laidKinds := [.data, .listed, .data, .data, .pinned], laidTests := true, laidLooks := .later }
def LineNamesUptoCardSaid : Prop := Claim7.holds Tryz.pinned (.plain (OpenSpec.upto lineNamesSpec)) lineNamesUptoCard

/-- THE SECOND FORM's CARD OF 'linotypelaw24.ParseKnown'. -/
def parseKnownUptoCard : Claim7 := { stood := { row := parseKnownUptoRow, standIns := [], harness := (true, "bc3286729510592b51449412ff59556d32ef40e7873c17ccf4409e23baa7cd8d"), looks := false }, kinds := [], alts := [], laidByText := true, laidKinds := [.data, .listed, .data, .data, .pinned], laidTests := true, laidLooks := .later }
def ParseKnownUptoCardSaid : Prop := Claim7.holds Tryz.pinned (.plain (OpenSpec.upto parseKnownSpec)) parseKnownUptoCard

/-- THE SECOND FORM's CARD OF 'linotypelaw25.LineNumbers'. -/
def lineNumbersUptoCard : Claim7 := { stood := { row := lineNumbersUptoRow, standIns := [], harness := (true, "bc3286729510592b51449412ff59556d32ef40e7873c17ccf4409e23baa7cd8d"), looks := false }, kinds := [], alts := [], laidByText := true, laidKinds := [.data, .data, .data, .data, .listed, .data, .data, .pinned], laidTests := true, laidLooks := .later }
def LineNumbersUptoCardSaid : Prop := Claim7.holds Tryz.pinned (.plain (OpenSpec.upto lineNumbersSpec)) lineNumbersUptoCard

/-- THE SECOND FORM's CARD OF 'linotypelaw25.LineBlanks'. -/
def lineBlanksUptoCard : Claim7 := { stood := { row := lineBlanksUptoRow, standIns := [], harness := (true, "bc3286729510592b51449412ff59556d32ef40e7873c17ccf4409e23baa7cd8d"), looks := false }, kinds := [], alts := [], laidByText := true, laidKinds := [.data, .data, .data, .data, .listed, .data, .data, .pinned], laidTests := true, laidLooks := .later }
def LineBlanksUptoCardSaid : Prop := Claim7.holds Tryz.pinned (.plain (OpenSpec.upto lineBlanksSpec)) lineBlanksUptoCard

/-- THE SECOND FORM's CARD OF 'linotypelaw24.ParseOperands'. -/
def parseOperandsUptoCard : Claim7 := { stood := { row := parseOperandsUptoRow, standIns := [], harness := (true, "bc3286729510592b51449412ff59556d32ef40e7873c17ccf4409e23baa7cd8d"), looks := false }, kinds := [], alts := [], laidByText := true, laidKinds := [.data, .data, .data, .data, .listed, .data, .data, .pinned], laidTests := true, laidLooks := .later }
def ParseOperandsUptoCardSaid : Prop := Claim7.holds Tryz.pinned (.plain (OpenSpec.upto parseOperandsSpec)) parseOperandsUptoCard

/-- THE SECOND FORM's CARD OF 'linotypelaw24.ParsePlaces'. -/
def parsePlacesUptoCard : Claim7 := { stood := { row := parsePlacesUptoRow, standIns := [], harness := (true, "bc3286729510592b51449412ff59556d32ef40e7873c17ccf4409e23baa7cd8d"), looks := false }, kinds := [], alts := [], laidByText := true, laidKinds := [.data, .data, .data, .data, .listed, .data, .data, .pinned], laidTests := true, laidLooks := .later }
def ParsePlacesUptoCardSaid : Prop := Claim7.holds Tryz.pinned (.plain (OpenSpec.upto parsePlacesSpec)) parsePlacesUptoCard

/-- THE SECOND FORM's CARD OF 'linotypelaw24.ParseBlanks'. -/
def parseBlanksUptoCard : Claim7 := { stood := { row := parseBlanksUptoRow, standIns := [], harness := (true, "bc3286729510592b51449412ff59556d32ef40e7873c17ccf4409e23baa7cd8d"), looks := false }, kinds := [], alts := [], laidByText := true, laidKinds := [.data, .data, .data, .data, .listed, .data, .data, .pinned], laidTests := true, laidLooks := .later }
def ParseBlanksUptoCardSaid : Prop := Claim7.holds Tryz.pinned (.plain (OpenSpec.upto parseBlanksSpec)) parseBlanksUptoCard

/-- THE SECOND FORM's CARD OF 'linotypelaw25.LineBack'. -/
def lineBackUptoCard : Claim7 := { stood := { row := lineBackUptoRow, standIns := [], harness := (true, "bc3286729510592b51449412ff59556d32ef40e7873c17ccf4409e23baa7cd8d"), looks := false }, kinds := [], alts := [], laidByText := true, laidKinds := [.data, .data, .data, .data, .listed, .data, .data, .pinned], laidTests := true, laidLooks := .later }
def LineBackUptoCardSaid : Prop := Claim7.holds Tryz.pinned (.plain (OpenSpec.upto lineBackSpec)) lineBackUptoCard

/-- THE SECOND FORM's CARD OF 'linotypelaw25.LineKnown'. -/
def lineKnownUptoCard : Claim7 := { stood := { row := lineKnownUptoRow, standIns := [], harness := (true, "bc3286729510592b51449412ff59556d32ef40e7873c17ccf4409e23baa7cd8d"), looks := false }, kinds := [], alts := [], laidByText := true, laidKinds := [.data, .data, .data, .data, .listed, .data, .data, .pinned], laidTests := true, laidLooks := .later }
def LineKnownUptoCardSaid : Prop := Claim7.holds Tryz.pinned (.plain (OpenSpec.upto lineKnownSpec)) lineKnownUptoCard
end Rows
end Go.Proofs.YtpaddkkfefgkfaaGreatDoor
