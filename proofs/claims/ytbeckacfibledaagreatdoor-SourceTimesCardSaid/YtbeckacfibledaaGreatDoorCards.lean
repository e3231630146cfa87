/-
  DERIVED. GIVEN WITH THE SEED: THE CARDS: each row of YtbeckacfibledaaGreatDoorRows.lean that lists a variable, with what it lists TIED to the program's text (the seventh form; the later family's looks); each row that meets fmt, with fmt's text TOLD by the authors' own Lean function (tested against real Go, not proved from fmt's source: count such statements apart). THE CARD IS WHAT COUNTS. Prove the row's statement (the work); the ties are given (YtbeckacfibledaaGreatDoorTie.lean); close each card by the builder's one call (the guide's Derived/Test/ToyasCard.lean, 'card_holds'). Laid BY PROGRAM, IN A SANDBOX (cutbox-door.mjs). By AI agents, Wed Nov 11 2026. No macro, syntax, notation, axiom, sorry.
-/
import Derived.Test.YtbeckacfibledaaGreatDoorRows
import GoSem.ClaimSeven
namespace Go.Proofs.YtbeckacfibledaaGreatDoor
namespace Rows

/-- THE TIED CARD OF 'linotypelaw26.SourceAhead'. -/
def sourceAheadCard : Claim7 := { stood := { row := sourceAheadRow, standIns := [], harness := (true, "290dd75986fdb8e92120d2768e88b8b3f6e4e544b37d3a7f27153cc306a23737"), looks := false }, kinds := [], alts := [], laidByText := true, laidKinds := [.data, .listed, .data, .data, .pinned], laidTests := true, laidLooks := .later }
def SourceAheadCardSaid : Prop := Claim7.holds Tryz.pinned (.plain (OpenSpec.ofChange sourceAheadSpec)) sourceAheadCard

/-- THE TIED CARD OF 'linotypelaw26.SourceEmpty'. -/
def sourceEmptyCard : Claim7 := { stood := { row := sourceEmptyRow, standIns := [], harness := (true, "290dd75986fdb8e92120d2768e88b8b3f6e4e544b37d3a7f27153cc306a23737"), looks := false }, kinds := [], alts := [], laidByText := true, laidKinds := [.data, .listed, .data, .data, .pinned], laidTests := true, laidLooks := .later }
def SourceEmptyCardSaid : Prop := Claim7.holds Tryz.pinned (.plain (OpenSpec.ofChange sourceEmptySpec)) sourceEmptyCard

/-- THE TIED CARD OF 'linotypelaw26.SourceTimes'. -/
def sourceTimesCard : Claim7 := { stood := { row := sourceTimesRow, standIns := [], harness := (true, "290dd75986fdb8e92120d2768e88b8b3f6e4e544b37d3a7f27153cc306a23737"), looks := false }, kinds := [], alts := [], laidByText := true, laidKinds := [.data, .data, .data, .data, .listed, .data, .data, .pinned], laidTests := true, laidLooks := .later }
def SourceTimesCardSaid : Prop := Claim7.holds Tryz.pinned (.plain (OpenSpec.ofChange sourceTimesSpec)) sourceTimesCard

/-- THE SECOND FORM's CARD OF 'linotypelaw26.SourceAhead'. -/
def sourceAheadUptoCard : Claim7 := { stood := { row := sourceAheadUptoRow, standIns := [], harness := (true, "290dd75986fdb8e92120d2768e88b8b3f6e4e544b37d3a7f27153cc306a23737"), looks := false }, kinds := [], alts := [], laidByText := true, laidKinds := [.data, .listed, .data, .data, .pinned], laidTests := true, laidLooks := .later }
def SourceAheadUptoCardSaid : Prop := Claim7.holds Tryz.pinned (.plain (OpenSpec.upto sourceAheadSpec)) sourceAheadUptoCard

/-- THE SECOND FORM's CARD OF 'linotypelaw26.SourceEmpty'. -/
def sourceEmptyUptoCard : Claim7 := { stood := { row := sourceEmptyUptoRow, standIns := [], harness := (true, "290dd75986fdb8e92120d2768e88b8b3f6e4e544b37d3a7f27153cc306a23737"), looks := false }, kinds := [], alts := [], laidByText := true, laidKinds := [.data, .listed, .data, .data, .pinned], laidTests := true, laidLooks := .later }
def SourceEmptyUptoCardSaid : Prop := Claim7.holds Tryz.pinned (.plain (OpenSpec.upto sourceEmptySpec)) sourceEmptyUptoCard

/-- THE SECOND FORM's CARD OF 'linotypelaw26.SourceTimes'. -/
def sourceTimesUptoCard : Claim7 := { stood := { row := sourceTimesUptoRow, standIns := [], harness := (true, "290dd75986fdb8e92120d2768e88b8b3f6e4e544b37d3a7f27153cc306a23737"), looks := false }, kinds := [], alts := [], laidByText := true, laidKinds := [.data, .data, .data, .data, .listed, .data, .data, .pinned], laidTests := true, laidLooks := .later }
def SourceTimesUptoCardSaid : Prop := Claim7.holds Tryz.pinned (.plain (OpenSpec.upto sourceTimesSpec)) sourceTimesUptoCard
end Rows
end Go.Proofs.YtbeckacfibledaaGreatDoor
