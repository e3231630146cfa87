/-
  DERIVED. GIVEN WITH THE SEED: THE CARDS: each row of YtfggompceldfgaaGreatDoorRows.lean that lists a variable, with what it lists TIED to the program's text (the seventh form; the later family's looks); each row that meets fmt, with fmt's text TOLD by the authors' own Lean function (tested against real Go, not proved from fmt's source: count such statements apart). THE CARD IS WHAT COUNTS. Prove the row's statement (the work); the ties are given (YtfggompceldfgaaGreatDoorTie.lean); close each card by the builder's one call (the guide's Derived/Test/ToyasCard.lean, 'card_holds'). Laid BY PROGRAM, IN A SANDBOX (cutbox-door.mjs). By AI agents, Wed Nov 11 2026. No macro, syntax, notation, axiom, sorry.
-/
import Derived.Test.YtfggompceldfgaaGreatDoorRows
import GoSem.ClaimSeven
namespace Go.Proofs.YtfggompceldfgaaGreatDoor
namespace Rows

/-- THE TIED CARD OF 'linotypelaw26.SourcePowers'. -/
def sourcePowersCard : Claim7 := { stood := { row := sourcePowersRow, standIns := [], harness := (true, "ab2f1abe102c5c1bdcf1f10b3ee4796e1bd55df6dd762d6aae65777fe5402683"), looks := false }, kinds := [], alts := [], laidByText := true, laidKinds := [.data, .listed, .data, .data, .pinned], laidTests := true, laidLooks := .later }
def SourcePowersCardSaid : Prop := Claim7.holds Tryz.pinned (.plain (OpenSpec.ofChange sourcePowersSpec)) sourcePowersCard

/-- THE TIED CARD OF 'linotypelaw26.SourceAhead'. -/
def sourceAheadCard : Claim7 := { stood := { row := sourceAheadRow, standIns := [], harness := (true, "ab2f1abe102c5c1bdcf1f10b3ee4796e1bd55df6dd762d6aae65777fe5402683"), looks := false }, kinds := [], alts := [], laidByText := true, laidKinds := [.data, .listed, .data, .data, .pinned], laidTests := true, laidLooks := .later }
def SourceAheadCardSaid : Prop := Claim7.holds Tryz.pinned (.plain (OpenSpec.ofChange sourceAheadSpec)) sourceAheadCard

/-- THE TIED CARD OF 'linotypelaw26.SourceEmpty'. -/
def sourceEmptyCard : Claim7 := { stood := { row := sourceEmptyRow, standIns := [], harness := (true, "ab2f1abe102c5c1bdcf1f10b3ee4796e1bd55df6dd762d6aae65777fe5402683"), looks := false }, kinds := [], alts := [], laidByText := true, laidKinds := [.data, .listed, .data, .data, .pinned], laidTests := true, laidLooks := .later }
def SourceEmptyCardSaid : Prop := Claim7.holds Tryz.pinned (.plain (OpenSpec.ofChange sourceEmptySpec)) sourceEmptyCard

/-- THE TIED CARD OF 'linotypelaw26.SourceOnce'. -/
def sourceOnceCard : Claim7 := { stood := { row := sourceOnceRow, standIns := [], harness := (true, "ab2f1abe102c5c1bdcf1f10b3ee4796e1bd55df6dd762d6aae65777fe5402683"), looks := false }, kinds := [], alts := [], laidByText := true, laidKinds := [.data, .listed, .data, .data, .pinned], laidTests := true, laidLooks := .later }
def SourceOnceCardSaid : Prop := Claim7.holds Tryz.pinned (.plain (OpenSpec.ofChange sourceOnceSpec)) sourceOnceCard

/-- THE TIED CARD OF 'linotypelaw26.SourceExact'. -/
def sourceExactCard : Claim7 := { stood := { row := sourceExactRow, standIns := [], harness := (true, "ab2f1abe102c5c1bdcf1f10b3ee4796e1bd55df6dd762d6aae65777fe5402683"), looks := false }, kinds := [], alts := [], laidByText := true, laidKinds := [.data, .listed, .data, .data, .pinned], laidTests := true, laidLooks := .later }
def SourceExactCardSaid : Prop := Claim7.holds Tryz.pinned (.plain (OpenSpec.ofChange sourceExactSpec)) sourceExactCard

/-- THE TIED CARD OF 'linotypelaw26.SourceKnown'. -/
def sourceKnownCard : Claim7 := { stood := { row := sourceKnownRow, standIns := [], harness := (true, "ab2f1abe102c5c1bdcf1f10b3ee4796e1bd55df6dd762d6aae65777fe5402683"), looks := false }, kinds := [], alts := [], laidByText := true, laidKinds := [.data, .listed, .data, .data, .pinned], laidTests := true, laidLooks := .later }
def SourceKnownCardSaid : Prop := Claim7.holds Tryz.pinned (.plain (OpenSpec.ofChange sourceKnownSpec)) sourceKnownCard

/-- THE TIED CARD OF 'linotypelaw26.SourceTimes'. -/
def sourceTimesCard : Claim7 := { stood := { row := sourceTimesRow, standIns := [], harness := (true, "ab2f1abe102c5c1bdcf1f10b3ee4796e1bd55df6dd762d6aae65777fe5402683"), looks := false }, kinds := [], alts := [], laidByText := true, laidKinds := [.data, .data, .data, .data, .listed, .data, .data, .pinned], laidTests := true, laidLooks := .later }
def SourceTimesCardSaid : Prop := Claim7.holds Tryz.pinned (.plain (OpenSpec.ofChange sourceTimesSpec)) sourceTimesCard

/-- THE SECOND FORM's CARD OF 'linotypelaw26.SourcePowers'. -/
def sourcePowersUptoCard : Claim7 := { stood := { row := sourcePowersUptoRow, standIns := [], harness := (true, "ab2f1abe102c5c1bdcf1f10b3ee4796e1bd55df6dd762d6aae65777fe5402683"), looks := false }, kinds := [], alts := [], laidByText := true, laidKinds := [.data, .listed, .data, .data, .pinned], laidTests := true, laidLooks := .later }
def SourcePowersUptoCardSaid : Prop := Claim7.holds Tryz.pinned (.plain (OpenSpec.upto sourcePowersSpec)) sourcePowersUptoCard

/-- THE SECOND FORM's CARD OF 'linotypelaw26.SourceAhead'. -/
def sourceAheadUptoCard : Claim7 := { stood := { row := sourceAheadUptoRow, standIns := [], harness := (true, "ab2f1abe102c5c1bdcf1f10b3ee4796e1bd55df6dd762d6aae65777fe5402683"), looks := false }, kinds := [], alts := [], laidByText := true, laidKinds := [.data, .listed, .data, .data, .pinned], laidTests := true, laidLooks := .later }
def SourceAheadUptoCardSaid : Prop := Claim7.holds Tryz.pinned (.plain (OpenSpec.upto sourceAheadSpec)) sourceAheadUptoCard

/-- THE SECOND FORM's CARD OF 'linotypelaw26.SourceEmpty'. -/
def sourceEmptyUptoCard : Claim7 := { stood := { row := sourceEmptyUptoRow, standIns := [], harness := (true, "ab2f1abe102c5c1bdcf1f10b3ee4796e1bd55df6dd762d6aae65777fe5402683"), looks := false }, kinds := [], alts := [], laidByText := true, laidKinds := [.data, .listed, .data, .data, .pinned], laidTests := true, laidLooks := .later }
def SourceEmptyUptoCardSaid : Prop := Claim7.holds Tryz.pinned (.plain (OpenSpec.upto sourceEmptySpec)) sourceEmptyUptoCard

/-- THE SECOND FORM's CARD OF 'linotypelaw26.SourceOnce'. -/
def sourceOnceUptoCard : Claim7 := { stood := { row := sourceOnceUptoRow, standIns := [], harness := (true, "ab2f1abe102c5c1bdcf1f10b3ee4796e1bd55df6dd762d6aae65777fe5402683"), looks := false }, kinds := [], alts := [], laidByText := true, laidKinds := [.data, .listed, .data, .data, .pinned], laidTests := true, laidLooks := .later }
def SourceOnceUptoCardSaid : Prop := Claim7.holds Tryz.pinned (.plain (OpenSpec.upto sourceOnceSpec)) sourceOnceUptoCard

/-- THE SECOND FORM's CARD OF 'linotypelaw26.SourceExact'. -/
def sourceExactUptoCard : Claim7 := { stood := { row := sourceExactUptoRow, standIns := [], harness := (true, "ab2f1abe102c5c1bdcf1f10b3ee4796e1bd55df6dd762d6aae65777fe5402683"), looks := false }, kinds := [], alts := [], laidByText := true, laidKinds := [.data, .listed, .data, .data, .pinned], laidTests := true, laidLooks := .later }
def SourceExactUptoCardSaid : Prop := Claim7.holds Tryz.pinned (.plain (OpenSpec.upto sourceExactSpec)) sourceExactUptoCard

/-- THE SECOND FORM's CARD OF 'linotypelaw26.SourceKnown'. -/
def sourceKnownUptoCard : Claim7 := { stood := { row := sourceKnownUptoRow, standIns := [], harness := (true, "ab2f1abe102c5c1bdcf1f10b3ee4796e1bd55df6dd762d6aae65777fe5402683"), looks := false }, kinds := [], alts := [], laidByText := true, laidKinds := [.data, .listed, .data, .data, .pinned], laidTests := true, laidLooks := .later }
def SourceKnownUptoCardSaid : Prop := Claim7.holds Tryz.pinned (.plain (OpenSpec.upto sourceKnownSpec)) sourceKnownUptoCard

/-- THE SECOND FORM's CARD OF 'linotypelaw26.SourceTimes'. -/
def sourceTimesUptoCard : Claim7 := { stood := { row := sourceTimesUptoRow, standIns := [], harness := (true, "ab2f1abe102c5c1bdcf1f10b3ee4796e1bd55df6dd762d6aae65777fe5402683"), looks := false }, kinds := [], alts := [], laidByText := true, laidKinds := [.data, .data, .data, .data, .listed, .data, .data, .pinned], laidTests := true, laidLooks := .later }
def SourceTimesUptoCardSaid : Prop := Claim7.holds Tryz.pinned (.plain (OpenSpec.upto sourceTimesSpec)) sourceTimesUptoCard
end Rows
end Go.Proofs.YtfggompceldfgaaGreatDoor
