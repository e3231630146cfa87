/-
  DERIVED. GIVEN WITH THE SEED: THE CARDS: each row of YtpajehginfbamaaDoorRows.lean that lists a variable, with what it lists TIED to the program's text (the seventh form; the later family's looks); each row that meets fmt, with fmt's text TOLD by the authors' own Lean function (tested against real Go, not proved from fmt's source: count such statements apart). THE CARD IS WHAT COUNTS. Prove the row's statement (the work); the ties are given (YtpajehginfbamaaDoorTie.lean); close each card by the builder's one call (the guide's Derived/Test/ToyasCard.lean, 'card_holds'). Laid BY PROGRAM, IN A SANDBOX (cutbox-door.mjs). By AI agents, Wed Nov 11 2026. No macro, syntax, notation, axiom, sorry.
-/
import Derived.Test.YtpajehginfbamaaDoorRows
import GoSem.ClaimSeven
namespace Go.Proofs.YtpajehginfbamaaDoor
namespace Rows

/-- THE TIED CARD OF 'linotypelaw07.NameBack'. -/
def nameBackCard : Claim7 := { stood := { row := nameBackRow, standIns := [], harness := (true, "118248645a0d5a352beeb8181d8f2bb106d86012b8db48b4f21e889b28c396f4"), looks := false }, kinds := [], alts := [], laidByText := true, laidKinds := [.data, .pinned], laidTests := true, laidLooks := .later }
def NameBackCardSaid : Prop := Claim7.holds Tryd.pinned (.plain (OpenSpec.ofChange nameBackSpec)) nameBackCard

/-- THE TIED CARD OF 'linotypelaw07.NameConds'. -/
def nameCondsCard : Claim7 := { stood := { row := nameCondsRow, standIns := [], harness := (true, "118248645a0d5a352beeb8181d8f2bb106d86012b8db48b4f21e889b28c396f4"), looks := false }, kinds := [], alts := [], laidByText := true, laidKinds := [.data, .pinned], laidTests := true, laidLooks := .later }
def NameCondsCardSaid : Prop := Claim7.holds Tryd.pinned (.plain (OpenSpec.ofChange nameCondsSpec)) nameCondsCard

/-- THE TIED CARD OF 'linotypelaw07.NameTells'. -/
def nameTellsCard : Claim7 := { stood := { row := nameTellsRow, standIns := [], harness := (true, "118248645a0d5a352beeb8181d8f2bb106d86012b8db48b4f21e889b28c396f4"), looks := false }, kinds := [], alts := [], laidByText := true, laidKinds := [.data, .pinned], laidTests := true, laidLooks := .later }
def NameTellsCardSaid : Prop := Claim7.holds Tryd.pinned (.plain (OpenSpec.ofChange nameTellsSpec)) nameTellsCard

/-- THE TIED CARD OF 'linotypelaw07.NameKnown'. -/
def nameKnownCard : Claim7 := { stood := { row := nameKnownRow, standIns := [], harness := (true, "118248645a0d5a352beeb8181d8f2bb106d86012b8db48b4f21e889b28c396f4"), looks := false }, kinds := [], alts := [], laidByText := true, laidKinds := [.data, .pinned], laidTests := true, laidLooks := .later }
def NameKnownCardSaid : Prop := Claim7.holds Tryd.pinned (.plain (OpenSpec.ofChange nameKnownSpec)) nameKnownCard

/-- THE TIED CARD OF 'linotypelaw03.RegKnown'. -/
def regKnownCard : Claim7 := { stood := { row := regKnownRow, standIns := [], harness := (true, "118248645a0d5a352beeb8181d8f2bb106d86012b8db48b4f21e889b28c396f4"), looks := false }, kinds := [], alts := [], laidByText := true, laidKinds := [.listed, .data], laidTests := true, laidLooks := .later }
def RegKnownCardSaid : Prop := Claim7.holds Tryd.pinned (.plain (OpenSpec.ofChange regKnownSpec)) regKnownCard

/-- THE TIED CARD OF 'linotypelaw03.RegBack'. -/
def regBackCard : Claim7 := { stood := { row := regBackRow, standIns := [], harness := (true, "118248645a0d5a352beeb8181d8f2bb106d86012b8db48b4f21e889b28c396f4"), looks := false }, kinds := [], alts := [], laidByText := true, laidKinds := [.listed, .data], laidTests := true, laidLooks := .later }
def RegBackCardSaid : Prop := Claim7.holds Tryd.pinned (.plain (OpenSpec.ofChange regBackSpec)) regBackCard

/-- THE TIED CARD OF 'linotypelaw03.RegApart'. -/
def regApartCard : Claim7 := { stood := { row := regApartRow, standIns := [], harness := (true, "118248645a0d5a352beeb8181d8f2bb106d86012b8db48b4f21e889b28c396f4"), looks := false }, kinds := [], alts := [], laidByText := true, laidKinds := [.listed, .data], laidTests := true, laidLooks := .later }
def RegApartCardSaid : Prop := Claim7.holds Tryd.pinned (.plain (OpenSpec.ofChange regApartSpec)) regApartCard

/-- THE TIED CARD OF 'linotypelaw03.RegTells'. -/
def regTellsCard : Claim7 := { stood := { row := regTellsRow, standIns := [], harness := (true, "118248645a0d5a352beeb8181d8f2bb106d86012b8db48b4f21e889b28c396f4"), looks := false }, kinds := [], alts := [], laidByText := true, laidKinds := [.data, .data, .data, .listed, .data], laidTests := true, laidLooks := .later }
def RegTellsCardSaid : Prop := Claim7.holds Tryd.pinned (.plain (OpenSpec.ofChange regTellsSpec)) regTellsCard

/-- THE TIED CARD OF 'linotypelaw23.ExprSums'. -/
def exprSumsCard : Claim7 := { stood := { row := exprSumsRow, standIns := [], harness := (true, "118248645a0d5a352beeb8181d8f2bb106d86012b8db48b4f21e889b28c396f4"), looks := false }, kinds := [], alts := [], laidByText := true, laidKinds := [.data], laidTests := true, laidLooks := .later }
def ExprSumsCardSaid : Prop := Claim7.holds Tryd.pinned (.plain (OpenSpec.ofChange exprSumsSpec)) exprSumsCard

/-- THE TIED CARD OF 'linotypelaw23.ExprFree'. -/
def exprFreeCard : Claim7 := { stood := { row := exprFreeRow, standIns := [], harness := (true, "118248645a0d5a352beeb8181d8f2bb106d86012b8db48b4f21e889b28c396f4"), looks := false }, kinds := [], alts := [], laidByText := true, laidKinds := [.data], laidTests := true, laidLooks := .later }
def ExprFreeCardSaid : Prop := Claim7.holds Tryd.pinned (.plain (OpenSpec.ofChange exprFreeSpec)) exprFreeCard

/-- THE TIED CARD OF 'linotypelaw23.ExprBack'. -/
def exprBackCard : Claim7 := { stood := { row := exprBackRow, standIns := [], harness := (true, "118248645a0d5a352beeb8181d8f2bb106d86012b8db48b4f21e889b28c396f4"), looks := false }, kinds := [], alts := [], laidByText := true, laidKinds := [.data], laidTests := true, laidLooks := .later }
def ExprBackCardSaid : Prop := Claim7.holds Tryd.pinned (.plain (OpenSpec.ofChange exprBackSpec)) exprBackCard

/-- THE TIED CARD OF 'linotypelaw23.ExprKnown'. -/
def exprKnownCard : Claim7 := { stood := { row := exprKnownRow, standIns := [], harness := (true, "118248645a0d5a352beeb8181d8f2bb106d86012b8db48b4f21e889b28c396f4"), looks := false }, kinds := [], alts := [], laidByText := true, laidKinds := [.data, .data, .data, .data], laidTests := true, laidLooks := .later }
def ExprKnownCardSaid : Prop := Claim7.holds Tryd.pinned (.plain (OpenSpec.ofChange exprKnownSpec)) exprKnownCard

/-- THE SECOND FORM's CARD OF 'linotypelaw07.NameBack'. -/
def nameBackUptoCard : Claim7 := { stood := { row := nameBackUptoRow, standIns := [], harness := (true, "118248645a0d5a352beeb8181d8f2bb106d86012b8db48b4f21e889b28c396f4"), looks := false }, kinds := [], alts := [], laidByText := true, laidKinds := [.data, .pinned], laidTests := true, laidLooks := .later }
def NameBackUptoCardSaid : Prop := Claim7.holds Tryd.pinned (.plain (OpenSpec.upto nameBackSpec)) nameBackUptoCard

/-- THE SECOND FORM's CARD OF 'linotypelaw07.NameConds'. -/
def nameCondsUptoCard : Claim7 := { stood := { row := nameCondsUptoRow, standIns := [], harness := (true, "118248645a0d5a352beeb8181d8f2bb106d86012b8db48b4f21e889b28c396f4"), looks := false }, kinds := [], alts := [], laidByText := true, laidKinds := [.data, .pinned], laidTests := true, laidLooks := .later }
def NameCondsUptoCardSaid : Prop := Claim7.holds Tryd.pinned (.plain (OpenSpec.upto nameCondsSpec)) nameCondsUptoCard

/-- THE SECOND FORM's CARD OF 'linotypelaw07.NameTells'. -/
def nameTellsUptoCard : Claim7 := { stood := { row := nameTellsUptoRow, standIns := [], harness := (true, "118248645a0d5a352beeb8181d8f2bb106d86012b8db48b4f21e889b28c396f4"), looks := false }, kinds := [], alts := [], laidByText := true, laidKinds := [.data, .pinned], laidTests := true, laidLooks := .later }
def NameTellsUptoCardSaid : Prop := Claim7.holds Tryd.pinned (.plain (OpenSpec.upto nameTellsSpec)) nameTellsUptoCard

/-- THE SECOND FORM's CARD OF 'linotypelaw07.NameKnown'. -/
def nameKnownUptoCard : Claim7 := { stood := { row := nameKnownUptoRow, standIns := [], harness := (true, "118248645a0d5a352beeb8181d8f2bb106d86012b8db48b4f21e889b28c396f4"), looks := false }, kinds := [], alts := [], laidByText := true, laidKinds := [.data, .pinned], laidTests := true, laidLooks := .later }
def NameKnownUptoCardSaid : Prop := Claim7.holds Tryd.pinned (.plain (OpenSpec.upto nameKnownSpec)) nameKnownUptoCard

/-- THE SECOND FORM's CARD OF 'linotypelaw03.RegKnown'. -/
def regKnownUptoCard : Claim7 := { stood := { row := regKnownUptoRow, standIns := [], harness := (true, "118248645a0d5a352beeb8181d8f2bb106d86012b8db48b4f21e889b28c396f4"), looks := false }, kinds := [], alts := [], laidByText := true, laidKinds := [.listed, .data], laidTests := true, laidLooks := .later }
def RegKnownUptoCardSaid : Prop := Claim7.holds Tryd.pinned (.plain (OpenSpec.upto regKnownSpec)) regKnownUptoCard

/-- THE SECOND FORM's CARD OF 'linotypelaw03.RegBack'. -/
def regBackUptoCard : Claim7 := { stood := { row := regBackUptoRow, standIns := [], harness := (true, "118248645a0d5a352beeb8181d8f2bb106d86012b8db48b4f21e889b28c396f4"), looks := false }, kinds := [], alts := [], laidByText := true, laidKinds := [.listed, .data], laidTests := true, laidLooks := .later }
def RegBackUptoCardSaid : Prop := Claim7.holds Tryd.pinned (.plain (OpenSpec.upto regBackSpec)) regBackUptoCard

/-- THE SECOND FORM's CARD OF 'linotypelaw03.RegApart'. -/
def regApartUptoCard : Claim7 := { stood := { row := regApartUptoRow, standIns := [], harness := (true, "118248645a0d5a352beeb8181d8f2bb106d86012b8db48b4f21e889b28c396f4"), looks := false }, kinds := [], alts := [], laidByText := true, laidKinds := [.listed, .data], laidTests := true, laidLooks := .later }
def RegApartUptoCardSaid : Prop := Claim7.holds Tryd.pinned (.plain (OpenSpec.upto regApartSpec)) regApartUptoCard

/-- THE SECOND FORM's CARD OF 'linotypelaw03.RegTells'. -/
def regTellsUptoCard : Claim7 := { stood := { row := regTellsUptoRow, standIns := [], harness := (true, "118248645a0d5a352beeb8181d8f2bb106d86012b8db48b4f21e889b28c396f4"), looks := false }, kinds := [], alts := [], laidByText := true, laidKinds := [.data, .data, .data, .listed, .data], laidTests := true, laidLooks := .later }
def RegTellsUptoCardSaid : Prop := Claim7.holds Tryd.pinned (.plain (OpenSpec.upto regTellsSpec)) regTellsUptoCard

/-- THE SECOND FORM's CARD OF 'linotypelaw23.ExprSums'. -/
def exprSumsUptoCard : Claim7 := { stood := { row := exprSumsUptoRow, standIns := [], harness := (true, "118248645a0d5a352beeb8181d8f2bb106d86012b8db48b4f21e889b28c396f4"), looks := false }, kinds := [], alts := [], laidByText := true, laidKinds := [.data], laidTests := true, laidLooks := .later }
def ExprSumsUptoCardSaid : Prop := Claim7.holds Tryd.pinned (.plain (OpenSpec.upto exprSumsSpec)) exprSumsUptoCard

/-- THE SECOND FORM's CARD OF 'linotypelaw23.ExprFree'. -/
def exprFreeUptoCard : Claim7 := { stood := { row := exprFreeUptoRow, standIns := [], harness := (true, "118248645a0d5a352beeb8181d8f2bb106d86012b8db48b4f21e889b28c396f4"), looks := false }, kinds := [], alts := [], laidByText := true, laidKinds := [.data], laidTests := true, laidLooks := .later }
def ExprFreeUptoCardSaid : Prop := Claim7.holds Tryd.pinned (.plain (OpenSpec.upto exprFreeSpec)) exprFreeUptoCard

/-- THE SECOND FORM's CARD OF 'linotypelaw23.ExprBack'. -/
def exprBackUptoCard : Claim7 := { stood := { row := exprBackUptoRow, standIns := [], harness := (true, "118248645a0d5a352beeb8181d8f2bb106d86012b8db48b4f21e889b28c396f4"), looks := false }, kinds := [], alts := [], laidByText := true, laidKinds := [.data], laidTests := true, laidLooks := .later }
def ExprBackUptoCardSaid : Prop := Claim7.holds Tryd.pinned (.plain (OpenSpec.upto exprBackSpec)) exprBackUptoCard

/-- THE SECOND FORM's CARD OF 'linotypelaw23.ExprKnown'. -/
def exprKnownUptoCard : Claim7 := { stood := { row := exprKnownUptoRow, standIns := [], harness := (true, "118248645a0d5a352beeb8181d8f2bb106d86012b8db48b4f21e889b28c396f4"), looks := false }, kinds := [], alts := [], laidByText := true, laidKinds := [.data, .data, .data, .data], laidTests := true, laidLooks := .later }
def ExprKnownUptoCardSaid : Prop := Claim7.holds Tryd.pinned (.plain (OpenSpec.upto exprKnownSpec)) exprKnownUptoCard
end Rows
end Go.Proofs.YtpajehginfbamaaDoor
