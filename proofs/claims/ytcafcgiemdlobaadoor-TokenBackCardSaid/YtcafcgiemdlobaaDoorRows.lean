/-
  NARROWER THAN 'FOR EVERY INPUT', by the rows' own cells (each row's printed sentence says how): TokenBlanks: laid · TokenParts: laid · LiteralScans: laid · LiteralTells: laid · LiteralBack: laid · LiteralSpelled: laid · LiteralBytes: laid · LiteralKnown: laid · TokenWrites: laid · TokenBack: laid · TokenKnown: laid.
  DERIVED. THE GIVEN ROWS OF THIS SEAT. 11 by the template 'for every input the law returns true; each argument reads behind the call as it read before'; 0 by the template 'total and deterministic' (their statements: YtcafcgiemdlobaaDoorTotals.lean).
  GIVEN WITH THE SEED: the statements are not yours to turn. If you find one false, say at which input.
  Laid BY PROGRAM, IN A SANDBOX (cutbox-rows.mjs): the forced cells as the released guide's own fill.sh prints them over the translation 4ce32cbe88569609… (all of the seat's roots in one cut). By AI agents, Wed Nov 11 2026. No macro, syntax, notation, axiom, sorry.
-/
import Derived.Test.YtcafcgiemdlobaaDoorChecked
import GoSem.Claim
import GoSem.ClaimJoined
import GoSem.ClaimMapViews
import Derived.JoinedTies
import Derived.KernelRfl
namespace Go.Proofs.YtcafcgiemdlobaaDoor
/- THE CELL 'sum', in the pinned program and in every row, IS THE sha256 OF THE DUMP (.gsa) THAT YtcafcgiemdlobaaDoorProg.lean LOADS. Nothing in Lean hashes anything: it is a label: what it is worth is what the hold of that sum in a sandbox is worth. -/
noncomputable def Tryd.pinned : Pinned := { name := "ytcafcgiemdlobaadoor", sum := "4ce32cbe88569609be8ed8a712c2d2596158c5212ce6bc10cf3fb7ad35ce2e14", checked := Tryd.checked }
namespace Rows
def none {H : Type} : Left H := { results := [], args := [] }

/- WHAT THE LISTED PACKAGE-LEVEL VARIABLES READ AS WHEN THE CALL BEGINS. Each datum BY PROGRAM (the guide's laid-datum.mjs) off the statement by which the dump's own 'gosem.cut.vars' lays the variable. In a bare row this is a premise. The card (YtcafcgiemdlobaaDoorCards.lean) ties it to the program's text. -/
def laid_linotype_token_signs {H : Type} : DataW H := .agg [.lit (.string [36, 36]), .lit (.string [60, 60]), .lit (.string [62, 62]), .lit (.string [43]), .lit (.string [45]), .lit (.string [42]), .lit (.string [47]), .lit (.string [37]), .lit (.string [38]), .lit (.string [124]), .lit (.string [94]), .lit (.string [126]), .lit (.string [40]), .lit (.string [41]), .lit (.string [91]), .lit (.string [93]), .lit (.string [44]), .lit (.string [58]), .lit (.string [36])]
def laid_math_bits_deBruijn32tab {H : Type} : DataW H := .agg [.lit (.int .u8 0), .lit (.int .u8 1), .lit (.int .u8 28), .lit (.int .u8 2), .lit (.int .u8 29), .lit (.int .u8 14), .lit (.int .u8 24), .lit (.int .u8 3), .lit (.int .u8 30), .lit (.int .u8 22), .lit (.int .u8 20), .lit (.int .u8 15), .lit (.int .u8 25), .lit (.int .u8 17), .lit (.int .u8 4), .lit (.int .u8 8), .lit (.int .u8 31), .lit (.int .u8 27), .lit (.int .u8 13), .lit (.int .u8 23), .lit (.int .u8 21), .lit (.int .u8 19), .lit (.int .u8 16), .lit (.int .u8 7), .lit (.int .u8 26), .lit (.int .u8 12), .lit (.int .u8 18), .lit (.int .u8 6), .lit (.int .u8 11), .lit (.int .u8 5), .lit (.int .u8 10), .lit (.int .u8 9)]
def laid_math_bits_deBruijn64tab {H : Type} : DataW H := .agg [.lit (.int .u8 0), .lit (.int .u8 1), .lit (.int .u8 56), .lit (.int .u8 2), .lit (.int .u8 57), .lit (.int .u8 49), .lit (.int .u8 28), .lit (.int .u8 3), .lit (.int .u8 61), .lit (.int .u8 58), .lit (.int .u8 42), .lit (.int .u8 50), .lit (.int .u8 38), .lit (.int .u8 29), .lit (.int .u8 17), .lit (.int .u8 4), .lit (.int .u8 62), .lit (.int .u8 47), .lit (.int .u8 59), .lit (.int .u8 36), .lit (.int .u8 45), .lit (.int .u8 43), .lit (.int .u8 51), .lit (.int .u8 22), .lit (.int .u8 53), .lit (.int .u8 39), .lit (.int .u8 33), .lit (.int .u8 30), .lit (.int .u8 24), .lit (.int .u8 18), .lit (.int .u8 12), .lit (.int .u8 5), .lit (.int .u8 63), .lit (.int .u8 55), .lit (.int .u8 48), .lit (.int .u8 27), .lit (.int .u8 60), .lit (.int .u8 41), .lit (.int .u8 37), .lit (.int .u8 16), .lit (.int .u8 46), .lit (.int .u8 35), .lit (.int .u8 44), .lit (.int .u8 21), .lit (.int .u8 52), .lit (.int .u8 32), .lit (.int .u8 23), .lit (.int .u8 11), .lit (.int .u8 54), .lit (.int .u8 26), .lit (.int .u8 40), .lit (.int .u8 15), .lit (.int .u8 34), .lit (.int .u8 20), .lit (.int .u8 31), .lit (.int .u8 10), .lit (.int .u8 25), .lit (.int .u8 14), .lit (.int .u8 19), .lit (.int .u8 9), .lit (.int .u8 13), .lit (.int .u8 8), .lit (.int .u8 7), .lit (.int .u8 6)]
def laid_internal_strconv_uint64pow10 {H : Type} : DataW H := .agg [.lit (.int .u64 1), .lit (.int .u64 10), .lit (.int .u64 100), .lit (.int .u64 1000), .lit (.int .u64 10000), .lit (.int .u64 100000), .lit (.int .u64 1000000), .lit (.int .u64 10000000), .lit (.int .u64 100000000), .lit (.int .u64 1000000000), .lit (.int .u64 10000000000), .lit (.int .u64 100000000000), .lit (.int .u64 1000000000000), .lit (.int .u64 10000000000000), .lit (.int .u64 100000000000000), .lit (.int .u64 1000000000000000), .lit (.int .u64 10000000000000000), .lit (.int .u64 100000000000000000), .lit (.int .u64 1000000000000000000), .lit (.int .u64 10000000000000000000)]

/-- 'linotypelaw22.TokenBlanks': WHATEVER THE INPUT: true; the input reads as it did. -/
def tokenBlanksSpec : ChangeSpec := { name := "tokenBlanks", fn := fun _ => fun
  | [d1, d2, d3] => { results := [.lit (.bool true)], args := [d1, d2, d3] }
  | _ => none }
def tokenBlanksRow : OpenClaim := { program := "ytcafcgiemdlobaadoor", sum := "4ce32cbe88569609be8ed8a712c2d2596158c5212ce6bc10cf3fb7ad35ce2e14", func := "linotype/linotypelaw22.TokenBlanks", spec := "tokenBlanks", inPlace := ["math/bits.Add64"], named := ["linotype/token.signs"], apart := false, laid := [("linotype/token.signs", laid_linotype_token_signs)] }
def TokenBlanksSaid : Prop := tokenBlanksRow.holds Tryd.pinned (OpenSpec.ofChange tokenBlanksSpec)

/-- ITS FALSE NEIGHBOUR: 'it returns false'. Refute it at one input. -/
def tokenBlanksWrong : ChangeSpec := { name := "tokenBlanks", fn := fun _ => fun
  | [d1, d2, d3] => { results := [.lit (.bool false)], args := [d1, d2, d3] }
  | _ => none }
def TokenBlanksWrongFalsely : Prop := tokenBlanksRow.holds Tryd.pinned (OpenSpec.ofChange tokenBlanksWrong)

/-- 'linotypelaw22.TokenParts': WHATEVER THE INPUT: true; the input reads as it did. -/
def tokenPartsSpec : ChangeSpec := { name := "tokenParts", fn := fun _ => fun
  | [d] => { results := [.lit (.bool true)], args := [d] }
  | _ => none }
def tokenPartsRow : OpenClaim := { program := "ytcafcgiemdlobaadoor", sum := "4ce32cbe88569609be8ed8a712c2d2596158c5212ce6bc10cf3fb7ad35ce2e14", func := "linotype/linotypelaw22.TokenParts", spec := "tokenParts", inPlace := ["math/bits.Add64"], named := ["linotype/token.signs"], apart := false, laid := [("linotype/token.signs", laid_linotype_token_signs)] }
def TokenPartsSaid : Prop := tokenPartsRow.holds Tryd.pinned (OpenSpec.ofChange tokenPartsSpec)

/-- ITS FALSE NEIGHBOUR: 'it returns false'. Refute it at one input. -/
def tokenPartsWrong : ChangeSpec := { name := "tokenParts", fn := fun _ => fun
  | [d] => { results := [.lit (.bool false)], args := [d] }
  | _ => none }
def TokenPartsWrongFalsely : Prop := tokenPartsRow.holds Tryd.pinned (OpenSpec.ofChange tokenPartsWrong)

/-- 'linotypelaw02.LiteralScans': WHATEVER THE INPUT: true; the input reads as it did. -/
def literalScansSpec : ChangeSpec := { name := "literalScans", fn := fun _ => fun
  | [d1, d2] => { results := [.lit (.bool true)], args := [d1, d2] }
  | _ => none }
def literalScansRow : OpenClaim := { program := "ytcafcgiemdlobaadoor", sum := "4ce32cbe88569609be8ed8a712c2d2596158c5212ce6bc10cf3fb7ad35ce2e14", func := "linotype/linotypelaw02.LiteralScans", spec := "literalScans", inPlace := ["math/bits.Add64"], named := ["internal/strconv.uint64pow10", "math/bits.deBruijn32tab", "math/bits.deBruijn64tab"], apart := false, laid := [("math/bits.deBruijn32tab", laid_math_bits_deBruijn32tab), ("math/bits.deBruijn64tab", laid_math_bits_deBruijn64tab), ("internal/strconv.uint64pow10", laid_internal_strconv_uint64pow10)] }
def LiteralScansSaid : Prop := literalScansRow.holds Tryd.pinned (OpenSpec.ofChange literalScansSpec)

/-- ITS FALSE NEIGHBOUR: 'it returns false'. Refute it at one input. -/
def literalScansWrong : ChangeSpec := { name := "literalScans", fn := fun _ => fun
  | [d1, d2] => { results := [.lit (.bool false)], args := [d1, d2] }
  | _ => none }
def LiteralScansWrongFalsely : Prop := literalScansRow.holds Tryd.pinned (OpenSpec.ofChange literalScansWrong)

/-- 'linotypelaw02.LiteralTells': WHATEVER THE INPUT: true; the input reads as it did. -/
def literalTellsSpec : ChangeSpec := { name := "literalTells", fn := fun _ => fun
  | [d] => { results := [.lit (.bool true)], args := [d] }
  | _ => none }
def literalTellsRow : OpenClaim := { program := "ytcafcgiemdlobaadoor", sum := "4ce32cbe88569609be8ed8a712c2d2596158c5212ce6bc10cf3fb7ad35ce2e14", func := "linotype/linotypelaw02.LiteralTells", spec := "literalTells", inPlace := ["math/bits.Add64"], named := ["internal/strconv.uint64pow10", "math/bits.deBruijn32tab", "math/bits.deBruijn64tab"], apart := false, laid := [("math/bits.deBruijn32tab", laid_math_bits_deBruijn32tab), ("math/bits.deBruijn64tab", laid_math_bits_deBruijn64tab), ("internal/strconv.uint64pow10", laid_internal_strconv_uint64pow10)] }
def LiteralTellsSaid : Prop := literalTellsRow.holds Tryd.pinned (OpenSpec.ofChange literalTellsSpec)

/-- ITS FALSE NEIGHBOUR: 'it returns false'. Refute it at one input. -/
def literalTellsWrong : ChangeSpec := { name := "literalTells", fn := fun _ => fun
  | [d] => { results := [.lit (.bool false)], args := [d] }
  | _ => none }
def LiteralTellsWrongFalsely : Prop := literalTellsRow.holds Tryd.pinned (OpenSpec.ofChange literalTellsWrong)

/-- 'linotypelaw02.LiteralBack': WHATEVER THE INPUT: true; the input reads as it did. -/
def literalBackSpec : ChangeSpec := { name := "literalBack", fn := fun _ => fun
  | [d1, d2, d3] => { results := [.lit (.bool true)], args := [d1, d2, d3] }
  | _ => none }
def literalBackRow : OpenClaim := { program := "ytcafcgiemdlobaadoor", sum := "4ce32cbe88569609be8ed8a712c2d2596158c5212ce6bc10cf3fb7ad35ce2e14", func := "linotype/linotypelaw02.LiteralBack", spec := "literalBack", inPlace := ["math/bits.Add64"], named := ["internal/strconv.uint64pow10", "math/bits.deBruijn32tab", "math/bits.deBruijn64tab"], apart := false, laid := [("math/bits.deBruijn32tab", laid_math_bits_deBruijn32tab), ("math/bits.deBruijn64tab", laid_math_bits_deBruijn64tab), ("internal/strconv.uint64pow10", laid_internal_strconv_uint64pow10)] }
def LiteralBackSaid : Prop := literalBackRow.holds Tryd.pinned (OpenSpec.ofChange literalBackSpec)

/-- ITS FALSE NEIGHBOUR: 'it returns false'. Refute it at one input. -/
def literalBackWrong : ChangeSpec := { name := "literalBack", fn := fun _ => fun
  | [d1, d2, d3] => { results := [.lit (.bool false)], args := [d1, d2, d3] }
  | _ => none }
def LiteralBackWrongFalsely : Prop := literalBackRow.holds Tryd.pinned (OpenSpec.ofChange literalBackWrong)

/-- 'linotypelaw02.LiteralSpelled': WHATEVER THE INPUT: true; the input reads as it did. -/
def literalSpelledSpec : ChangeSpec := { name := "literalSpelled", fn := fun _ => fun
  | [d] => { results := [.lit (.bool true)], args := [d] }
  | _ => none }
def literalSpelledRow : OpenClaim := { program := "ytcafcgiemdlobaadoor", sum := "4ce32cbe88569609be8ed8a712c2d2596158c5212ce6bc10cf3fb7ad35ce2e14", func := "linotype/linotypelaw02.LiteralSpelled", spec := "literalSpelled", inPlace := ["math/bits.Add64"], named := ["internal/strconv.uint64pow10", "math/bits.deBruijn32tab", "math/bits.deBruijn64tab"], apart := false, laid := [("math/bits.deBruijn32tab", laid_math_bits_deBruijn32tab), ("math/bits.deBruijn64tab", laid_math_bits_deBruijn64tab), ("internal/strconv.uint64pow10", laid_internal_strconv_uint64pow10)] }
def LiteralSpelledSaid : Prop := literalSpelledRow.holds Tryd.pinned (OpenSpec.ofChange literalSpelledSpec)

/-- ITS FALSE NEIGHBOUR: 'it returns false'. Refute it at one input. -/
def literalSpelledWrong : ChangeSpec := { name := "literalSpelled", fn := fun _ => fun
  | [d] => { results := [.lit (.bool false)], args := [d] }
  | _ => none }
def LiteralSpelledWrongFalsely : Prop := literalSpelledRow.holds Tryd.pinned (OpenSpec.ofChange literalSpelledWrong)

/-- 'linotypelaw02.LiteralBytes': WHATEVER THE INPUT: true; the input reads as it did. -/
def literalBytesSpec : ChangeSpec := { name := "literalBytes", fn := fun _ => fun
  | [d] => { results := [.lit (.bool true)], args := [d] }
  | _ => none }
def literalBytesRow : OpenClaim := { program := "ytcafcgiemdlobaadoor", sum := "4ce32cbe88569609be8ed8a712c2d2596158c5212ce6bc10cf3fb7ad35ce2e14", func := "linotype/linotypelaw02.LiteralBytes", spec := "literalBytes", inPlace := ["math/bits.Add64"], named := ["internal/strconv.uint64pow10", "math/bits.deBruijn32tab", "math/bits.deBruijn64tab"], apart := false, laid := [("math/bits.deBruijn32tab", laid_math_bits_deBruijn32tab), ("math/bits.deBruijn64tab", laid_math_bits_deBruijn64tab), ("internal/strconv.uint64pow10", laid_internal_strconv_uint64pow10)] }
def LiteralBytesSaid : Prop := literalBytesRow.holds Tryd.pinned (OpenSpec.ofChange literalBytesSpec)

/-- ITS FALSE NEIGHBOUR: 'it returns false'. Refute it at one input. -/
def literalBytesWrong : ChangeSpec := { name := "literalBytes", fn := fun _ => fun
  | [d] => { results := [.lit (.bool false)], args := [d] }
  | _ => none }
def LiteralBytesWrongFalsely : Prop := literalBytesRow.holds Tryd.pinned (OpenSpec.ofChange literalBytesWrong)

/-- 'linotypelaw02.LiteralKnown': WHATEVER THE INPUT: true; the input reads as it did. -/
def literalKnownSpec : ChangeSpec := { name := "literalKnown", fn := fun _ => fun
  | [] => { results := [.lit (.bool true)], args := [] }
  | _ => none }
def literalKnownRow : OpenClaim := { program := "ytcafcgiemdlobaadoor", sum := "4ce32cbe88569609be8ed8a712c2d2596158c5212ce6bc10cf3fb7ad35ce2e14", func := "linotype/linotypelaw02.LiteralKnown", spec := "literalKnown", inPlace := ["math/bits.Add64"], named := ["internal/strconv.uint64pow10", "math/bits.deBruijn32tab", "math/bits.deBruijn64tab"], apart := false, laid := [("math/bits.deBruijn32tab", laid_math_bits_deBruijn32tab), ("math/bits.deBruijn64tab", laid_math_bits_deBruijn64tab), ("internal/strconv.uint64pow10", laid_internal_strconv_uint64pow10)] }
def LiteralKnownSaid : Prop := literalKnownRow.holds Tryd.pinned (OpenSpec.ofChange literalKnownSpec)

/-- ITS FALSE NEIGHBOUR: 'it returns false'. Refute it at one input. -/
def literalKnownWrong : ChangeSpec := { name := "literalKnown", fn := fun _ => fun
  | [] => { results := [.lit (.bool false)], args := [] }
  | _ => none }
def LiteralKnownWrongFalsely : Prop := literalKnownRow.holds Tryd.pinned (OpenSpec.ofChange literalKnownWrong)

/-- 'linotypelaw22.TokenWrites': WHATEVER THE INPUT: true; the input reads as it did. -/
def tokenWritesSpec : ChangeSpec := { name := "tokenWrites", fn := fun _ => fun
  | [d] => { results := [.lit (.bool true)], args := [d] }
  | _ => none }
def tokenWritesRow : OpenClaim := { program := "ytcafcgiemdlobaadoor", sum := "4ce32cbe88569609be8ed8a712c2d2596158c5212ce6bc10cf3fb7ad35ce2e14", func := "linotype/linotypelaw22.TokenWrites", spec := "tokenWrites", inPlace := ["internal/abi.NoEscape", "math/bits.Add64"], named := ["linotype/token.signs", "internal/strconv.uint64pow10", "math/bits.deBruijn32tab", "math/bits.deBruijn64tab"], apart := false, laid := [("math/bits.deBruijn32tab", laid_math_bits_deBruijn32tab), ("math/bits.deBruijn64tab", laid_math_bits_deBruijn64tab), ("internal/strconv.uint64pow10", laid_internal_strconv_uint64pow10), ("linotype/token.signs", laid_linotype_token_signs)] }
def TokenWritesSaid : Prop := tokenWritesRow.holds Tryd.pinned (OpenSpec.ofChange tokenWritesSpec)

/-- ITS FALSE NEIGHBOUR: 'it returns false'. Refute it at one input. -/
def tokenWritesWrong : ChangeSpec := { name := "tokenWrites", fn := fun _ => fun
  | [d] => { results := [.lit (.bool false)], args := [d] }
  | _ => none }
def TokenWritesWrongFalsely : Prop := tokenWritesRow.holds Tryd.pinned (OpenSpec.ofChange tokenWritesWrong)

/-- 'linotypelaw22.TokenBack': WHATEVER THE INPUT: true; the input reads as it did. -/
def tokenBackSpec : ChangeSpec := { name := "tokenBack", fn := fun _ => fun
  | [d1, d2] => { results := [.lit (.bool true)], args := [d1, d2] }
  | _ => none }
def tokenBackRow : OpenClaim := { program := "ytcafcgiemdlobaadoor", sum := "4ce32cbe88569609be8ed8a712c2d2596158c5212ce6bc10cf3fb7ad35ce2e14", func := "linotype/linotypelaw22.TokenBack", spec := "tokenBack", inPlace := ["math/bits.Add64", "internal/abi.NoEscape"], named := ["linotype/token.signs", "internal/strconv.uint64pow10", "math/bits.deBruijn32tab", "math/bits.deBruijn64tab"], apart := false, laid := [("math/bits.deBruijn32tab", laid_math_bits_deBruijn32tab), ("math/bits.deBruijn64tab", laid_math_bits_deBruijn64tab), ("internal/strconv.uint64pow10", laid_internal_strconv_uint64pow10), ("linotype/token.signs", laid_linotype_token_signs)] }
def TokenBackSaid : Prop := tokenBackRow.holds Tryd.pinned (OpenSpec.ofChange tokenBackSpec)

/-- ITS FALSE NEIGHBOUR: 'it returns false'. Refute it at one input. -/
def tokenBackWrong : ChangeSpec := { name := "tokenBack", fn := fun _ => fun
  | [d1, d2] => { results := [.lit (.bool false)], args := [d1, d2] }
  | _ => none }
def TokenBackWrongFalsely : Prop := tokenBackRow.holds Tryd.pinned (OpenSpec.ofChange tokenBackWrong)

/-- 'linotypelaw22.TokenKnown': WHATEVER THE INPUT: true; the input reads as it did. -/
def tokenKnownSpec : ChangeSpec := { name := "tokenKnown", fn := fun _ => fun
  | [] => { results := [.lit (.bool true)], args := [] }
  | _ => none }
def tokenKnownRow : OpenClaim := { program := "ytcafcgiemdlobaadoor", sum := "4ce32cbe88569609be8ed8a712c2d2596158c5212ce6bc10cf3fb7ad35ce2e14", func := "linotype/linotypelaw22.TokenKnown", spec := "tokenKnown", inPlace := ["internal/abi.NoEscape", "math/bits.Add64"], named := ["linotype/token.signs", "internal/strconv.uint64pow10", "math/bits.deBruijn32tab", "math/bits.deBruijn64tab"], apart := false, laid := [("math/bits.deBruijn32tab", laid_math_bits_deBruijn32tab), ("math/bits.deBruijn64tab", laid_math_bits_deBruijn64tab), ("internal/strconv.uint64pow10", laid_internal_strconv_uint64pow10), ("linotype/token.signs", laid_linotype_token_signs)] }
def TokenKnownSaid : Prop := tokenKnownRow.holds Tryd.pinned (OpenSpec.ofChange tokenKnownSpec)

/-- ITS FALSE NEIGHBOUR: 'it returns false'. Refute it at one input. -/
def tokenKnownWrong : ChangeSpec := { name := "tokenKnown", fn := fun _ => fun
  | [] => { results := [.lit (.bool false)], args := [] }
  | _ => none }
def TokenKnownWrongFalsely : Prop := tokenKnownRow.holds Tryd.pinned (OpenSpec.ofChange tokenKnownWrong)

/- THE SECOND FORM. 'bulk': how many values and letters a reading holds, each counted each time it is reached (what is shared counts as often as it is met; a slice's spare places count too). A statement '..UptoSaid' is the law's where the arguments, and the package variables that the reading takes, are together of bulk at most 1048576: NARROWER than '..Said'. Prove '..Said' where nothing that the law and all that it calls make is longer than what came in: it says more and counts as full. Else prove '..UptoSaid'. A law counts once. -/
mutual
def uptoBulk {H : Type} : DataW H → Nat
  | .lit (.string bytes) => bytes.length + 1
  | .lit _ => 1
  | .nil => 1
  | .ptr d => uptoBulk d + 1
  | .slice elems spare => uptoBulkAll elems + uptoBulkAll spare + 1
  | .agg parts => uptoBulkAll parts + 1
  | .iface _ d => uptoBulk d + 1
  | .map entries => uptoBulkEntries entries + 1
  | .held _ => 1
def uptoBulkAll {H : Type} : List (DataW H) → Nat
  | [] => 0
  | d :: r => uptoBulk d + uptoBulkAll r
def uptoBulkEntries {H : Type} : List (Lit × DataW H) → Nat
  | [] => 0
  | x :: r => uptoBulkEntry x + uptoBulkEntries r
def uptoBulkEntry {H : Type} : Lit × DataW H → Nat
  | (.string bytes, d) => bytes.length + uptoBulk d + 1
  | (_, d) => uptoBulk d + 1
 end
def uptoSmall : (H : Type) → List (DataW H) → Bool := fun _ ds => decide (uptoBulkAll ds ≤ 1048576)
def OpenSpec.upto (s : _root_.Go.ChangeSpec) : _root_.Go.OpenSpec := { _root_.Go.OpenSpec.ofChange s with cond := some uptoSmall }

/-- 'linotypelaw22.TokenBlanks', WHERE WHAT IT READS IS OF BULK AT MOST 1048576: true; the input reads as it did. -/
def tokenBlanksUptoRow : OpenClaim := { program := "ytcafcgiemdlobaadoor", sum := "4ce32cbe88569609be8ed8a712c2d2596158c5212ce6bc10cf3fb7ad35ce2e14", func := "linotype/linotypelaw22.TokenBlanks", spec := "tokenBlanks", inPlace := ["math/bits.Add64"], named := ["linotype/token.signs"], apart := false, laid := [("linotype/token.signs", laid_linotype_token_signs)], narrowed := true }
def TokenBlanksUptoSaid : Prop := tokenBlanksUptoRow.holds Tryd.pinned (OpenSpec.upto tokenBlanksSpec)

/-- 'linotypelaw22.TokenParts', WHERE WHAT IT READS IS OF BULK AT MOST 1048576: true; the input reads as it did. -/
def tokenPartsUptoRow : OpenClaim := { program := "ytcafcgiemdlobaadoor", sum := "4ce32cbe88569609be8ed8a712c2d2596158c5212ce6bc10cf3fb7ad35ce2e14", func := "linotype/linotypelaw22.TokenParts", spec := "tokenParts", inPlace := ["math/bits.Add64"], named := ["linotype/token.signs"], apart := false, laid := [("linotype/token.signs", laid_linotype_token_signs)], narrowed := true }
def TokenPartsUptoSaid : Prop := tokenPartsUptoRow.holds Tryd.pinned (OpenSpec.upto tokenPartsSpec)

/-- 'linotypelaw02.LiteralScans', WHERE WHAT IT READS IS OF BULK AT MOST 1048576: true; the input reads as it did. -/
def literalScansUptoRow : OpenClaim := { program := "ytcafcgiemdlobaadoor", sum := "4ce32cbe88569609be8ed8a712c2d2596158c5212ce6bc10cf3fb7ad35ce2e14", func := "linotype/linotypelaw02.LiteralScans", spec := "literalScans", inPlace := ["math/bits.Add64"], named := ["internal/strconv.uint64pow10", "math/bits.deBruijn32tab", "math/bits.deBruijn64tab"], apart := false, laid := [("math/bits.deBruijn32tab", laid_math_bits_deBruijn32tab), ("math/bits.deBruijn64tab", laid_math_bits_deBruijn64tab), ("internal/strconv.uint64pow10", laid_internal_strconv_uint64pow10)], narrowed := true }
def LiteralScansUptoSaid : Prop := literalScansUptoRow.holds Tryd.pinned (OpenSpec.upto literalScansSpec)

/-- 'linotypelaw02.LiteralTells', WHERE WHAT IT READS IS OF BULK AT MOST 1048576: true; the input reads as it did. -/
def literalTellsUptoRow : OpenClaim := { program := "ytcafcgiemdlobaadoor", sum := "4ce32cbe88569609be8ed8a712c2d2596158c5212ce6bc10cf3fb7ad35ce2e14", func := "linotype/linotypelaw02.LiteralTells", spec := "literalTells", inPlace := ["math/bits.Add64"], named := ["internal/strconv.uint64pow10", "math/bits.deBruijn32tab", "math/bits.deBruijn64tab"], apart := false, laid := [("math/bits.deBruijn32tab", laid_math_bits_deBruijn32tab), ("math/bits.deBruijn64tab", laid_math_bits_deBruijn64tab), ("internal/strconv.uint64pow10", laid_internal_strconv_uint64pow10)], narrowed := true }
def LiteralTellsUptoSaid : Prop := literalTellsUptoRow.holds Tryd.pinned (OpenSpec.upto literalTellsSpec)

/-- 'linotypelaw02.LiteralBack', WHERE WHAT IT READS IS OF BULK AT MOST 1048576: true; the input reads as it did. -/
def literalBackUptoRow : OpenClaim := { program := "ytcafcgiemdlobaadoor", sum := "4ce32cbe88569609be8ed8a712c2d2596158c5212ce6bc10cf3fb7ad35ce2e14", func := "linotype/linotypelaw02.LiteralBack", spec := "literalBack", inPlace := ["math/bits.Add64"], named := ["internal/strconv.uint64pow10", "math/bits.deBruijn32tab", "math/bits.deBruijn64tab"], apart := false, laid := [("math/bits.deBruijn32tab", laid_math_bits_deBruijn32tab), ("math/bits.deBruijn64tab", laid_math_bits_deBruijn64tab), ("internal/strconv.uint64pow10", laid_internal_strconv_uint64pow10)], narrowed := true }
def LiteralBackUptoSaid : Prop := literalBackUptoRow.holds Tryd.pinned (OpenSpec.upto literalBackSpec)

/-- 'linotypelaw02.LiteralSpelled', WHERE WHAT IT READS IS OF BULK AT MOST 1048576: true; the input reads as it did. -/
def literalSpelledUptoRow : OpenClaim := { program := "ytcafcgiemdlobaadoor", sum := "4ce32cbe88569609be8ed8a712c2d2596158c5212ce6bc10cf3fb7ad35ce2e14", func := "linotype/linotypelaw02.LiteralSpelled", spec := "literalSpelled", inPlace := ["math/bits.Add64"], named := ["internal/strconv.uint64pow10", "math/bits.deBruijn32tab", "math/bits.deBruijn64tab"], apart := false, laid := [("math/bits.deBruijn32tab", laid_math_bits_deBruijn32tab), ("math/bits.deBruijn64tab", laid_math_bits_deBruijn64tab), ("internal/strconv.uint64pow10", laid_internal_strconv_uint64pow10)], narrowed := true }
def LiteralSpelledUptoSaid : Prop := literalSpelledUptoRow.holds Tryd.pinned (OpenSpec.upto literalSpelledSpec)

/-- 'linotypelaw02.LiteralBytes', WHERE WHAT IT READS IS OF BULK AT MOST 1048576: true; the input reads as it did. -/
def literalBytesUptoRow : OpenClaim := { program := "ytcafcgiemdlobaadoor", sum := "4ce32cbe88569609be8ed8a712c2d2596158c5212ce6bc10cf3fb7ad35ce2e14", func := "linotype/linotypelaw02.LiteralBytes", spec := "literalBytes", inPlace := ["math/bits.Add64"], named := ["internal/strconv.uint64pow10", "math/bits.deBruijn32tab", "math/bits.deBruijn64tab"], apart := false, laid := [("math/bits.deBruijn32tab", laid_math_bits_deBruijn32tab), ("math/bits.deBruijn64tab", laid_math_bits_deBruijn64tab), ("internal/strconv.uint64pow10", laid_internal_strconv_uint64pow10)], narrowed := true }
def LiteralBytesUptoSaid : Prop := literalBytesUptoRow.holds Tryd.pinned (OpenSpec.upto literalBytesSpec)

/-- 'linotypelaw02.LiteralKnown', WHERE WHAT IT READS IS OF BULK AT MOST 1048576: true; the input reads as it did. -/
def literalKnownUptoRow : OpenClaim := { program := "ytcafcgiemdlobaadoor", sum := "4ce32cbe88569609be8ed8a712c2d2596158c5212ce6bc10cf3fb7ad35ce2e14", func := "linotype/linotypelaw02.LiteralKnown", spec := "literalKnown", inPlace := ["math/bits.Add64"], named := ["internal/strconv.uint64pow10", "math/bits.deBruijn32tab", "math/bits.deBruijn64tab"], apart := false, laid := [("math/bits.deBruijn32tab", laid_math_bits_deBruijn32tab), ("math/bits.deBruijn64tab", laid_math_bits_deBruijn64tab), ("internal/strconv.uint64pow10", laid_internal_strconv_uint64pow10)], narrowed := true }
def LiteralKnownUptoSaid : Prop := literalKnownUptoRow.holds Tryd.pinned (OpenSpec.upto literalKnownSpec)

/-- 'linotypelaw22.TokenWrites', WHERE WHAT IT READS IS OF BULK AT MOST 1048576: true; the input reads as it did. -/
def tokenWritesUptoRow : OpenClaim := { program := "ytcafcgiemdlobaadoor", sum := "4ce32cbe88569609be8ed8a712c2d2596158c5212ce6bc10cf3fb7ad35ce2e14", func := "linotype/linotypelaw22.TokenWrites", spec := "tokenWrites", inPlace := ["internal/abi.NoEscape", "math/bits.Add64"], named := ["linotype/token.signs", "internal/strconv.uint64pow10", "math/bits.deBruijn32tab", "math/bits.deBruijn64tab"], apart := false, laid := [("math/bits.deBruijn32tab", laid_math_bits_deBruijn32tab), ("math/bits.deBruijn64tab", laid_math_bits_deBruijn64tab), ("internal/strconv.uint64pow10", laid_internal_strconv_uint64pow10), ("linotype/token.signs", laid_linotype_token_signs)], narrowed := true }
def TokenWritesUptoSaid : Prop := tokenWritesUptoRow.holds Tryd.pinned (OpenSpec.upto tokenWritesSpec)

/-- 'linotypelaw22.TokenBack', WHERE WHAT IT READS IS OF BULK AT MOST 1048576: true; the input reads as it did. -/
def tokenBackUptoRow : OpenClaim := { program := "ytcafcgiemdlobaadoor", sum := "4ce32cbe88569609be8ed8a712c2d2596158c5212ce6bc10cf3fb7ad35ce2e14", func := "linotype/linotypelaw22.TokenBack", spec := "tokenBack", inPlace := ["math/bits.Add64", "internal/abi.NoEscape"], named := ["linotype/token.signs", "internal/strconv.uint64pow10", "math/bits.deBruijn32tab", "math/bits.deBruijn64tab"], apart := false, laid := [("math/bits.deBruijn32tab", laid_math_bits_deBruijn32tab), ("math/bits.deBruijn64tab", laid_math_bits_deBruijn64tab), ("internal/strconv.uint64pow10", laid_internal_strconv_uint64pow10), ("linotype/token.signs", laid_linotype_token_signs)], narrowed := true }
def TokenBackUptoSaid : Prop := tokenBackUptoRow.holds Tryd.pinned (OpenSpec.upto tokenBackSpec)

/-- 'linotypelaw22.TokenKnown', WHERE WHAT IT READS IS OF BULK AT MOST 1048576: true; the input reads as it did. -/
def tokenKnownUptoRow : OpenClaim := { program := "ytcafcgiemdlobaadoor", sum := "4ce32cbe88569609be8ed8a712c2d2596158c5212ce6bc10cf3fb7ad35ce2e14", func := "linotype/linotypelaw22.TokenKnown", spec := "tokenKnown", inPlace := ["internal/abi.NoEscape", "math/bits.Add64"], named := ["linotype/token.signs", "internal/strconv.uint64pow10", "math/bits.deBruijn32tab", "math/bits.deBruijn64tab"], apart := false, laid := [("math/bits.deBruijn32tab", laid_math_bits_deBruijn32tab), ("math/bits.deBruijn64tab", laid_math_bits_deBruijn64tab), ("internal/strconv.uint64pow10", laid_internal_strconv_uint64pow10), ("linotype/token.signs", laid_linotype_token_signs)], narrowed := true }
def TokenKnownUptoSaid : Prop := tokenKnownUptoRow.holds Tryd.pinned (OpenSpec.upto tokenKnownSpec)

end Rows
end Go.Proofs.YtcafcgiemdlobaaDoor
