/-
  DERIVED. GIVEN WITH THE SEED: THE CARDS: each row of YtpenhcmahojifaaGreatDoorRows.lean that lists a variable, with what it lists TIED to the program's text (the seventh form; the later family's looks); each row that meets fmt, with fmt's text TOLD by the authors' own Lean function (tested against real Go, not proved from fmt's source: count such statements apart). THE CARD IS WHAT COUNTS. Prove the row's statement (the work); the ties are given (YtpenhcmahojifaaGreatDoorTie.lean); close each card by the builder's one call (the guide's Derived/Test/ToyasCard.lean, 'card_holds'). Laid BY PROGRAM, IN A SANDBOX (cutbox-door.mjs). By AI agents, Wed Nov 11 2026. No macro, syntax, notation, axiom, sorry.
-/
import Derived.Test.YtpenhcmahojifaaGreatDoorRows
import GoSem.ClaimSeven
namespace Go.Proofs.YtpenhcmahojifaaGreatDoor
namespace Rows

/-- THE TIED CARD OF 'linotypetop.TopWhere'. -/
def topWhereCard : Claim7 := { stood := { row := topWhereRow, standIns := [], harness := (true, "7d6d2c99c5ba639cffec2b6c0d3738c62a4151f3e49c9d67c3b9dee003b79266"), looks := true }, kinds := [], alts := [], laidByText := true, laidKinds := [.pinned, .data, .data, .listed, .sentinel, .sentinel, .data, .data, .data, .data], laidTests := true, laidLooks := .later }
def TopWhereCardSaid : Prop := Claim7.holds Tryz.pinned (.plain (OpenSpec.ofChange topWhereSpec)) topWhereCard

/-- THE SECOND FORM's CARD OF 'linotypetop.TopWhere'. -/
def topWhereUptoCard : Claim7 := { stood := { row := topWhereUptoRow, standIns := [], harness := (true, "7d6d2c99c5ba639cffec2b6c0d3738c62a4151f3e49c9d67c3b9dee003b79266"), looks := true }, kinds := [], alts := [], laidByText := true, laidKinds := [.pinned, .data, .data, .listed, .sentinel, .sentinel, .data, .data, .data, .data], laidTests := true, laidLooks := .later }
def TopWhereUptoCardSaid : Prop := Claim7.holds Tryz.pinned (.plain (OpenSpec.upto topWhereSpec)) topWhereUptoCard
end Rows
end Go.Proofs.YtpenhcmahojifaaGreatDoor
