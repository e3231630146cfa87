/-
  No cell of these rows narrows 'for every input' (looked for: loops, veiled, ifaces, maps, wideKeys, modest, calm, conditions, laid).
  DERIVED. THE GIVEN ROWS OF THIS SEAT. 12 by the template 'for every input the law returns true; each argument reads behind the call as it read before'; 0 by the template 'total and deterministic' (their statements: YtpabmjpkkhmidaaTotals.lean).
  GIVEN WITH THE SEED: the statements are not yours to turn. If you find one false, say at which input.
  Laid BY PROGRAM, IN A SANDBOX (cutbox-rows.mjs): the forced cells as the released guide's own fill.sh prints them over the translation 4c119b0e503fca71… (all of the seat's roots in one cut). By AI agents, Wed Nov 11 2026. No macro, syntax, notation, axiom, sorry.
-/
import Derived.Test.YtpabmjpkkhmidaaChecked
import GoSem.Claim
import GoSem.ClaimJoined
import GoSem.ClaimMapViews
import Derived.JoinedTies
import Derived.KernelRfl
namespace Go.Proofs.Ytpabmjpkkhmidaa
/- THE CELL 'sum', in the pinned program and in every row, IS THE sha256 OF THE DUMP (.gsa) THAT YtpabmjpkkhmidaaProg.lean LOADS. Nothing in Lean hashes anything: it is a label: what it is worth is what the hold of that sum in a sandbox is worth. -/
noncomputable def Try.pinned : Pinned := { name := "ytpabmjpkkhmidaa", sum := "4c119b0e503fca713d1edaad07f4809f42b0d890e181e7f4c7d90c3d2373fc9e", checked := Try.checked }
namespace Rows
def none {H : Type} : Left H := { results := [], args := [] }

/-- 'linotypelaw10.RexReads': WHATEVER THE INPUT: true; the input reads as it did. -/
def rexReadsSpec : ChangeSpec := { name := "rexReads", fn := fun _ => fun
  | [d] => { results := [.lit (.bool true)], args := [d] }
  | _ => none }
def rexReadsRow : OpenClaim := { program := "ytpabmjpkkhmidaa", sum := "4c119b0e503fca713d1edaad07f4809f42b0d890e181e7f4c7d90c3d2373fc9e", func := "linotype/linotypelaw10.RexReads", spec := "rexReads", apart := false }
def RexReadsSaid : Prop := rexReadsRow.holds Try.pinned (OpenSpec.ofChange rexReadsSpec)

/-- ITS FALSE NEIGHBOUR: 'it returns false'. Refute it at one input. -/
def rexReadsWrong : ChangeSpec := { name := "rexReads", fn := fun _ => fun
  | [d] => { results := [.lit (.bool false)], args := [d] }
  | _ => none }
def RexReadsWrongFalsely : Prop := rexReadsRow.holds Try.pinned (OpenSpec.ofChange rexReadsWrong)

/-- 'linotypelaw10.RexLays': WHATEVER THE INPUT: true; the input reads as it did. -/
def rexLaysSpec : ChangeSpec := { name := "rexLays", fn := fun _ => fun
  | [d1, d2, d3, d4, d5, d6] => { results := [.lit (.bool true)], args := [d1, d2, d3, d4, d5, d6] }
  | _ => none }
def rexLaysRow : OpenClaim := { program := "ytpabmjpkkhmidaa", sum := "4c119b0e503fca713d1edaad07f4809f42b0d890e181e7f4c7d90c3d2373fc9e", func := "linotype/linotypelaw10.RexLays", spec := "rexLays", apart := false }
def RexLaysSaid : Prop := rexLaysRow.holds Try.pinned (OpenSpec.ofChange rexLaysSpec)

/-- ITS FALSE NEIGHBOUR: 'it returns false'. Refute it at one input. -/
def rexLaysWrong : ChangeSpec := { name := "rexLays", fn := fun _ => fun
  | [d1, d2, d3, d4, d5, d6] => { results := [.lit (.bool false)], args := [d1, d2, d3, d4, d5, d6] }
  | _ => none }
def RexLaysWrongFalsely : Prop := rexLaysRow.holds Try.pinned (OpenSpec.ofChange rexLaysWrong)

/-- 'linotypelaw10.RexKnown': WHATEVER THE INPUT: true; the input reads as it did. -/
def rexKnownSpec : ChangeSpec := { name := "rexKnown", fn := fun _ => fun
  | [] => { results := [.lit (.bool true)], args := [] }
  | _ => none }
def rexKnownRow : OpenClaim := { program := "ytpabmjpkkhmidaa", sum := "4c119b0e503fca713d1edaad07f4809f42b0d890e181e7f4c7d90c3d2373fc9e", func := "linotype/linotypelaw10.RexKnown", spec := "rexKnown", apart := false }
def RexKnownSaid : Prop := rexKnownRow.holds Try.pinned (OpenSpec.ofChange rexKnownSpec)

/-- ITS FALSE NEIGHBOUR: 'it returns false'. Refute it at one input. -/
def rexKnownWrong : ChangeSpec := { name := "rexKnown", fn := fun _ => fun
  | [] => { results := [.lit (.bool false)], args := [] }
  | _ => none }
def RexKnownWrongFalsely : Prop := rexKnownRow.holds Try.pinned (OpenSpec.ofChange rexKnownWrong)

/-- 'linotypelaw10.RexBack': WHATEVER THE INPUT: true; the input reads as it did. -/
def rexBackSpec : ChangeSpec := { name := "rexBack", fn := fun _ => fun
  | [d1, d2, d3] => { results := [.lit (.bool true)], args := [d1, d2, d3] }
  | _ => none }
def rexBackRow : OpenClaim := { program := "ytpabmjpkkhmidaa", sum := "4c119b0e503fca713d1edaad07f4809f42b0d890e181e7f4c7d90c3d2373fc9e", func := "linotype/linotypelaw10.RexBack", spec := "rexBack", apart := false }
def RexBackSaid : Prop := rexBackRow.holds Try.pinned (OpenSpec.ofChange rexBackSpec)

/-- ITS FALSE NEIGHBOUR: 'it returns false'. Refute it at one input. -/
def rexBackWrong : ChangeSpec := { name := "rexBack", fn := fun _ => fun
  | [d1, d2, d3] => { results := [.lit (.bool false)], args := [d1, d2, d3] }
  | _ => none }
def RexBackWrongFalsely : Prop := rexBackRow.holds Try.pinned (OpenSpec.ofChange rexBackWrong)

/-- 'linotypelaw04.CondOne': WHATEVER THE INPUT: true; the input reads as it did. -/
def condOneSpec : ChangeSpec := { name := "condOne", fn := fun _ => fun
  | [d1, d2] => { results := [.lit (.bool true)], args := [d1, d2] }
  | _ => none }
def condOneRow : OpenClaim := { program := "ytpabmjpkkhmidaa", sum := "4c119b0e503fca713d1edaad07f4809f42b0d890e181e7f4c7d90c3d2373fc9e", func := "linotype/linotypelaw04.CondOne", spec := "condOne", apart := false }
def CondOneSaid : Prop := condOneRow.holds Try.pinned (OpenSpec.ofChange condOneSpec)

/-- ITS FALSE NEIGHBOUR: 'it returns false'. Refute it at one input. -/
def condOneWrong : ChangeSpec := { name := "condOne", fn := fun _ => fun
  | [d1, d2] => { results := [.lit (.bool false)], args := [d1, d2] }
  | _ => none }
def CondOneWrongFalsely : Prop := condOneRow.holds Try.pinned (OpenSpec.ofChange condOneWrong)

/-- 'linotypelaw04.CondCompares': WHATEVER THE INPUT: true; the input reads as it did. -/
def condComparesSpec : ChangeSpec := { name := "condCompares", fn := fun _ => fun
  | [d1, d2, d3] => { results := [.lit (.bool true)], args := [d1, d2, d3] }
  | _ => none }
def condComparesRow : OpenClaim := { program := "ytpabmjpkkhmidaa", sum := "4c119b0e503fca713d1edaad07f4809f42b0d890e181e7f4c7d90c3d2373fc9e", func := "linotype/linotypelaw04.CondCompares", spec := "condCompares", apart := false }
def CondComparesSaid : Prop := condComparesRow.holds Try.pinned (OpenSpec.ofChange condComparesSpec)

/-- ITS FALSE NEIGHBOUR: 'it returns false'. Refute it at one input. -/
def condComparesWrong : ChangeSpec := { name := "condCompares", fn := fun _ => fun
  | [d1, d2, d3] => { results := [.lit (.bool false)], args := [d1, d2, d3] }
  | _ => none }
def CondComparesWrongFalsely : Prop := condComparesRow.holds Try.pinned (OpenSpec.ofChange condComparesWrong)

/-- 'linotypelaw04.CondTells': WHATEVER THE INPUT: true; the input reads as it did. -/
def condTellsSpec : ChangeSpec := { name := "condTells", fn := fun _ => fun
  | [d1, d2, d3] => { results := [.lit (.bool true)], args := [d1, d2, d3] }
  | _ => none }
def condTellsRow : OpenClaim := { program := "ytpabmjpkkhmidaa", sum := "4c119b0e503fca713d1edaad07f4809f42b0d890e181e7f4c7d90c3d2373fc9e", func := "linotype/linotypelaw04.CondTells", spec := "condTells", apart := false }
def CondTellsSaid : Prop := condTellsRow.holds Try.pinned (OpenSpec.ofChange condTellsSpec)

/-- ITS FALSE NEIGHBOUR: 'it returns false'. Refute it at one input. -/
def condTellsWrong : ChangeSpec := { name := "condTells", fn := fun _ => fun
  | [d1, d2, d3] => { results := [.lit (.bool false)], args := [d1, d2, d3] }
  | _ => none }
def CondTellsWrongFalsely : Prop := condTellsRow.holds Try.pinned (OpenSpec.ofChange condTellsWrong)

/-- 'linotypelaw04.CondNames': WHATEVER THE INPUT: true; the input reads as it did. -/
def condNamesSpec : ChangeSpec := { name := "condNames", fn := fun _ => fun
  | [d1, d2] => { results := [.lit (.bool true)], args := [d1, d2] }
  | _ => none }
def condNamesRow : OpenClaim := { program := "ytpabmjpkkhmidaa", sum := "4c119b0e503fca713d1edaad07f4809f42b0d890e181e7f4c7d90c3d2373fc9e", func := "linotype/linotypelaw04.CondNames", spec := "condNames", apart := false }
def CondNamesSaid : Prop := condNamesRow.holds Try.pinned (OpenSpec.ofChange condNamesSpec)

/-- ITS FALSE NEIGHBOUR: 'it returns false'. Refute it at one input. -/
def condNamesWrong : ChangeSpec := { name := "condNames", fn := fun _ => fun
  | [d1, d2] => { results := [.lit (.bool false)], args := [d1, d2] }
  | _ => none }
def CondNamesWrongFalsely : Prop := condNamesRow.holds Try.pinned (OpenSpec.ofChange condNamesWrong)

/-- 'linotypelaw04.CondKnown': WHATEVER THE INPUT: true; the input reads as it did. -/
def condKnownSpec : ChangeSpec := { name := "condKnown", fn := fun _ => fun
  | [] => { results := [.lit (.bool true)], args := [] }
  | _ => none }
def condKnownRow : OpenClaim := { program := "ytpabmjpkkhmidaa", sum := "4c119b0e503fca713d1edaad07f4809f42b0d890e181e7f4c7d90c3d2373fc9e", func := "linotype/linotypelaw04.CondKnown", spec := "condKnown", apart := false }
def CondKnownSaid : Prop := condKnownRow.holds Try.pinned (OpenSpec.ofChange condKnownSpec)

/-- ITS FALSE NEIGHBOUR: 'it returns false'. Refute it at one input. -/
def condKnownWrong : ChangeSpec := { name := "condKnown", fn := fun _ => fun
  | [] => { results := [.lit (.bool false)], args := [] }
  | _ => none }
def CondKnownWrongFalsely : Prop := condKnownRow.holds Try.pinned (OpenSpec.ofChange condKnownWrong)

/-- 'linotypelaw11.VexReads': WHATEVER THE INPUT: true; the input reads as it did. -/
def vexReadsSpec : ChangeSpec := { name := "vexReads", fn := fun _ => fun
  | [d] => { results := [.lit (.bool true)], args := [d] }
  | _ => none }
def vexReadsRow : OpenClaim := { program := "ytpabmjpkkhmidaa", sum := "4c119b0e503fca713d1edaad07f4809f42b0d890e181e7f4c7d90c3d2373fc9e", func := "linotype/linotypelaw11.VexReads", spec := "vexReads", apart := false }
def VexReadsSaid : Prop := vexReadsRow.holds Try.pinned (OpenSpec.ofChange vexReadsSpec)

/-- ITS FALSE NEIGHBOUR: 'it returns false'. Refute it at one input. -/
def vexReadsWrong : ChangeSpec := { name := "vexReads", fn := fun _ => fun
  | [d] => { results := [.lit (.bool false)], args := [d] }
  | _ => none }
def VexReadsWrongFalsely : Prop := vexReadsRow.holds Try.pinned (OpenSpec.ofChange vexReadsWrong)

/-- 'linotypelaw11.VexKnown': WHATEVER THE INPUT: true; the input reads as it did. -/
def vexKnownSpec : ChangeSpec := { name := "vexKnown", fn := fun _ => fun
  | [] => { results := [.lit (.bool true)], args := [] }
  | _ => none }
def vexKnownRow : OpenClaim := { program := "ytpabmjpkkhmidaa", sum := "4c119b0e503fca713d1edaad07f4809f42b0d890e181e7f4c7d90c3d2373fc9e", func := "linotype/linotypelaw11.VexKnown", spec := "vexKnown", apart := false }
def VexKnownSaid : Prop := vexKnownRow.holds Try.pinned (OpenSpec.ofChange vexKnownSpec)

/-- ITS FALSE NEIGHBOUR: 'it returns false'. Refute it at one input. -/
def vexKnownWrong : ChangeSpec := { name := "vexKnown", fn := fun _ => fun
  | [] => { results := [.lit (.bool false)], args := [] }
  | _ => none }
def VexKnownWrongFalsely : Prop := vexKnownRow.holds Try.pinned (OpenSpec.ofChange vexKnownWrong)

/-- 'linotypelaw11.VexBack': WHATEVER THE INPUT: true; the input reads as it did. -/
def vexBackSpec : ChangeSpec := { name := "vexBack", fn := fun _ => fun
  | [d1, d2, d3] => { results := [.lit (.bool true)], args := [d1, d2, d3] }
  | _ => none }
def vexBackRow : OpenClaim := { program := "ytpabmjpkkhmidaa", sum := "4c119b0e503fca713d1edaad07f4809f42b0d890e181e7f4c7d90c3d2373fc9e", func := "linotype/linotypelaw11.VexBack", spec := "vexBack", apart := false }
def VexBackSaid : Prop := vexBackRow.holds Try.pinned (OpenSpec.ofChange vexBackSpec)

/-- ITS FALSE NEIGHBOUR: 'it returns false'. Refute it at one input. -/
def vexBackWrong : ChangeSpec := { name := "vexBack", fn := fun _ => fun
  | [d1, d2, d3] => { results := [.lit (.bool false)], args := [d1, d2, d3] }
  | _ => none }
def VexBackWrongFalsely : Prop := vexBackRow.holds Try.pinned (OpenSpec.ofChange vexBackWrong)

/- THE SECOND FORM. 'bulk': how many values and letters a reading holds, each counted each time it is reached (what is shared counts as often as it is met; a slice's spare places count too). A statement '..UptoSaid' is the law's where the arguments, and the package variables that the reading takes, are together of bulk at most 1048576: NARROWER than '..Said'. Prove '..Said' where nothing that the law and all that it calls make is longer than what came in: it says more and counts as full. Else prove '..UptoSaid'. A law counts once. -/
mutual
def uptoBulk {H : Type} : DataW H → Nat
  | .lit (.string bytes) => bytes.length + 1
  | .lit _ => 1
  | .nil => 1
  | .ptr d => uptoBulk d + 1
  | .slice elems spare => uptoBulkAll elems + uptoBulkAll spare + 1
  | .agg parts => uptoBulkAll parts + 1
  | .iface _ d => uptoBulk d + 1
  | .map entries => uptoBulkEntries entries + 1
  | .held _ => 1
def uptoBulkAll {H : Type} : List (DataW H) → Nat
  | [] => 0
  | d :: r => uptoBulk d + uptoBulkAll r
def uptoBulkEntries {H : Type} : List (Lit × DataW H) → Nat
  | [] => 0
  | x :: r => uptoBulkEntry x + uptoBulkEntries r
def uptoBulkEntry {H : Type} : Lit × DataW H → Nat
  | (.string bytes, d) => bytes.length + uptoBulk d + 1
  | (_, d) => uptoBulk d + 1
 end
def uptoSmall : (H : Type) → List (DataW H) → Bool := fun _ ds => decide (uptoBulkAll ds ≤ 1048576)
def OpenSpec.upto (s : _root_.Go.ChangeSpec) : _root_.Go.OpenSpec := { _root_.Go.OpenSpec.ofChange s with cond := some uptoSmall }

/-- 'linotypelaw10.RexReads', WHERE WHAT IT READS IS OF BULK AT MOST 1048576: true; the input reads as it did. -/
def rexReadsUptoRow : OpenClaim := { program := "ytpabmjpkkhmidaa", sum := "4c119b0e503fca713d1edaad07f4809f42b0d890e181e7f4c7d90c3d2373fc9e", func := "linotype/linotypelaw10.RexReads", spec := "rexReads", apart := false, narrowed := true }
def RexReadsUptoSaid : Prop := rexReadsUptoRow.holds Try.pinned (OpenSpec.upto rexReadsSpec)

/-- 'linotypelaw10.RexLays', WHERE WHAT IT READS IS OF BULK AT MOST 1048576: true; the input reads as it did. -/
def rexLaysUptoRow : OpenClaim := { program := "ytpabmjpkkhmidaa", sum := "4c119b0e503fca713d1edaad07f4809f42b0d890e181e7f4c7d90c3d2373fc9e", func := "linotype/linotypelaw10.RexLays", spec := "rexLays", apart := false, narrowed := true }
def RexLaysUptoSaid : Prop := rexLaysUptoRow.holds Try.pinned (OpenSpec.upto rexLaysSpec)

/-- 'linotypelaw10.RexKnown', WHERE WHAT IT READS IS OF BULK AT MOST 1048576: true; the input reads as it did. -/
def rexKnownUptoRow : OpenClaim := { program := "ytpabmjpkkhmidaa", sum := "4c119b0e503fca713d1edaad07f4809f42b0d890e181e7f4c7d90c3d2373fc9e", func := "linotype/linotypelaw10.RexKnown", spec := "rexKnown", apart := false, narrowed := true }
def RexKnownUptoSaid : Prop := rexKnownUptoRow.holds Try.pinned (OpenSpec.upto rexKnownSpec)

/-- 'linotypelaw10.RexBack', WHERE WHAT IT READS IS OF BULK AT MOST 1048576: true; the input reads as it did. -/
def rexBackUptoRow : OpenClaim := { program := "ytpabmjpkkhmidaa", sum := "4c119b0e503fca713d1edaad07f4809f42b0d890e181e7f4c7d90c3d2373fc9e", func := "linotype/linotypelaw10.RexBack", spec := "rexBack", apart := false, narrowed := true }
def RexBackUptoSaid : Prop := rexBackUptoRow.holds Try.pinned (OpenSpec.upto rexBackSpec)

/-- 'linotypelaw04.CondOne', WHERE WHAT IT READS IS OF BULK AT MOST 1048576: true; the input reads as it did. -/
def condOneUptoRow : OpenClaim := { program := "ytpabmjpkkhmidaa", sum := "4c119b0e503fca713d1edaad07f4809f42b0d890e181e7f4c7d90c3d2373fc9e", func := "linotype/linotypelaw04.CondOne", spec := "condOne", apart := false, narrowed := true }
def CondOneUptoSaid : Prop := condOneUptoRow.holds Try.pinned (OpenSpec.upto condOneSpec)

/-- 'linotypelaw04.CondCompares', WHERE WHAT IT READS IS OF BULK AT MOST 1048576: true; the input reads as it did. -/
def condComparesUptoRow : OpenClaim := { program := "ytpabmjpkkhmidaa", sum := "4c119b0e503fca713d1edaad07f4809f42b0d890e181e7f4c7d90c3d2373fc9e", func := "linotype/linotypelaw04.CondCompares", spec := "condCompares", apart := false, narrowed := true }
def CondComparesUptoSaid : Prop := condComparesUptoRow.holds Try.pinned (OpenSpec.upto condComparesSpec)

/-- 'linotypelaw04.CondTells', WHERE WHAT IT READS IS OF BULK AT MOST 1048576: true; the input reads as it did. -/
def condTellsUptoRow : OpenClaim := { program := "ytpabmjpkkhmidaa", sum := "4c119b0e503fca713d1edaad07f4809f42b0d890e181e7f4c7d90c3d2373fc9e", func := "linotype/linotypelaw04.CondTells", spec := "condTells", apart := false, narrowed := true }
def CondTellsUptoSaid : Prop := condTellsUptoRow.holds Try.pinned (OpenSpec.upto condTellsSpec)

/-- 'linotypelaw04.CondNames', WHERE WHAT IT READS IS OF BULK AT MOST 1048576: true; the input reads as it did. -/
def condNamesUptoRow : OpenClaim := { program := "ytpabmjpkkhmidaa", sum := "4c119b0e503fca713d1edaad07f4809f42b0d890e181e7f4c7d90c3d2373fc9e", func := "linotype/linotypelaw04.CondNames", spec := "condNames", apart := false, narrowed := true }
def CondNamesUptoSaid : Prop := condNamesUptoRow.holds Try.pinned (OpenSpec.upto condNamesSpec)

/-- 'linotypelaw04.CondKnown', WHERE WHAT IT READS IS OF BULK AT MOST 1048576: true; the input reads as it did. -/
def condKnownUptoRow : OpenClaim := { program := "ytpabmjpkkhmidaa", sum := "4c119b0e503fca713d1edaad07f4809f42b0d890e181e7f4c7d90c3d2373fc9e", func := "linotype/linotypelaw04.CondKnown", spec := "condKnown", apart := false, narrowed := true }
def CondKnownUptoSaid : Prop := condKnownUptoRow.holds Try.pinned (OpenSpec.upto condKnownSpec)

/-- 'linotypelaw11.VexReads', WHERE WHAT IT READS IS OF BULK AT MOST 1048576: true; the input reads as it did. -/
def vexReadsUptoRow : OpenClaim := { program := "ytpabmjpkkhmidaa", sum := "4c119b0e503fca713d1edaad07f4809f42b0d890e181e7f4c7d90c3d2373fc9e", func := "linotype/linotypelaw11.VexReads", spec := "vexReads", apart := false, narrowed := true }
def VexReadsUptoSaid : Prop := vexReadsUptoRow.holds Try.pinned (OpenSpec.upto vexReadsSpec)

/-- 'linotypelaw11.VexKnown', WHERE WHAT IT READS IS OF BULK AT MOST 1048576: true; the input reads as it did. -/
def vexKnownUptoRow : OpenClaim := { program := "ytpabmjpkkhmidaa", sum := "4c119b0e503fca713d1edaad07f4809f42b0d890e181e7f4c7d90c3d2373fc9e", func := "linotype/linotypelaw11.VexKnown", spec := "vexKnown", apart := false, narrowed := true }
def VexKnownUptoSaid : Prop := vexKnownUptoRow.holds Try.pinned (OpenSpec.upto vexKnownSpec)

/-- 'linotypelaw11.VexBack', WHERE WHAT IT READS IS OF BULK AT MOST 1048576: true; the input reads as it did. -/
def vexBackUptoRow : OpenClaim := { program := "ytpabmjpkkhmidaa", sum := "4c119b0e503fca713d1edaad07f4809f42b0d890e181e7f4c7d90c3d2373fc9e", func := "linotype/linotypelaw11.VexBack", spec := "vexBack", apart := false, narrowed := true }
def VexBackUptoSaid : Prop := vexBackUptoRow.holds Try.pinned (OpenSpec.upto vexBackSpec)

end Rows
end Go.Proofs.Ytpabmjpkkhmidaa
