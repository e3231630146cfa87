/-
  NARROWER THAN 'FOR EVERY INPUT', by the rows' own cells (each row's printed sentence says how): ExprFree: laid · ExprBack: laid.
  DERIVED. THE GIVEN ROWS OF THIS SEAT. 2 by the template 'for every input the law returns true; each argument reads behind the call as it read before'; 0 by the template 'total and deterministic' (their statements: YtpaddkkfefgkfaaDoorTotals.lean).
  GIVEN WITH THE SEED: the statements are not yours to turn. If you find one false, say at which input.
  Laid BY PROGRAM, IN A SANDBOX (cutbox-rows.mjs): the forced cells as the released guide's own fill.sh prints them over the translation 3e65af0da1bd6f46… (all of the seat's roots in one cut). By AI agents, Wed Nov 11 2026. No macro, syntax, notation, axiom, sorry.
-/
import Derived.Test.YtpaddkkfefgkfaaDoorChecked
import GoSem.Claim
import GoSem.ClaimJoined
import GoSem.ClaimMapViews
import Derived.JoinedTies
import Derived.KernelRfl
namespace Go.Proofs.YtpaddkkfefgkfaaDoor
/- THE CELL 'sum', in the pinned program and in every row, IS THE sha256 OF THE DUMP (.gsa) THAT YtpaddkkfefgkfaaDoorProg.lean LOADS. Nothing in Lean hashes anything: it is a label: what it is worth is what the hold of that sum in a sandbox is worth. -/
noncomputable def Tryd.pinned : Pinned := { name := "ytpaddkkfefgkfaadoor", sum := "3e65af0da1bd6f4657bd08414832c75ee81ba1913fbd87fb54ba8120a38fae43", checked := Tryd.checked }
namespace Rows
def none {H : Type} : Left H := { results := [], args := [] }

/- WHAT THE LISTED PACKAGE-LEVEL VARIABLES READ AS WHEN THE CALL BEGINS. Each datum BY PROGRAM (the guide's laid-datum.mjs) off the statement by which the dump's own 'gosem.cut.vars' lays the variable. In a bare row this is a premise. The card (YtpaddkkfefgkfaaDoorCards.lean) ties it to the program's text. -/
def laid_linotype_token_signs {H : Type} : DataW H := .agg [.lit (.string [36, 36]), .lit (.string [60, 60]), .lit (.string [62, 62]), .lit (.string [43]), .lit (.string [45]), .lit (.string [42]), .lit (.string [47]), .lit (.string [37]), .lit (.string [38]), .lit (.string [124]), .lit (.string [94]), .lit (.string [126]), .lit (.string [40]), .lit (.string [41]), .lit (.string [91]), .lit (.string [93]), .lit (.string [44]), .lit (.string [58]), .lit (.string [36])]

/-- 'linotypelaw23.ExprFree': WHATEVER THE INPUT: true; the input reads as it did. -/
def exprFreeSpec : ChangeSpec := { name := "exprFree", fn := fun _ => fun
  | [d1, d2, d3, d4] => { results := [.lit (.bool true)], args := [d1, d2, d3, d4] }
  | _ => none }
def exprFreeRow : OpenClaim := { program := "ytpaddkkfefgkfaadoor", sum := "3e65af0da1bd6f4657bd08414832c75ee81ba1913fbd87fb54ba8120a38fae43", func := "linotype/linotypelaw23.ExprFree", spec := "exprFree", inPlace := ["math/bits.Add64"], recurses := true, named := ["linotype/token.signs"], apart := false, laid := [("linotype/token.signs", laid_linotype_token_signs)] }
def ExprFreeSaid : Prop := exprFreeRow.holds Tryd.pinned (OpenSpec.ofChange exprFreeSpec)

/-- ITS FALSE NEIGHBOUR: 'it returns false'. Refute it at one input. -/
def exprFreeWrong : ChangeSpec := { name := "exprFree", fn := fun _ => fun
  | [d1, d2, d3, d4] => { results := [.lit (.bool false)], args := [d1, d2, d3, d4] }
  | _ => none }
def ExprFreeWrongFalsely : Prop := exprFreeRow.holds Tryd.pinned (OpenSpec.ofChange exprFreeWrong)

/-- 'linotypelaw23.ExprBack': WHATEVER THE INPUT: true; the input reads as it did. -/
def exprBackSpec : ChangeSpec := { name := "exprBack", fn := fun _ => fun
  | [d1, d2, d3] => { results := [.lit (.bool true)], args := [d1, d2, d3] }
  | _ => none }
def exprBackRow : OpenClaim := { program := "ytpaddkkfefgkfaadoor", sum := "3e65af0da1bd6f4657bd08414832c75ee81ba1913fbd87fb54ba8120a38fae43", func := "linotype/linotypelaw23.ExprBack", spec := "exprBack", inPlace := ["math/bits.Add64"], unfollowed := true, recurses := true, named := ["linotype/token.signs"], apart := false, laid := [("linotype/token.signs", laid_linotype_token_signs)] }
def ExprBackSaid : Prop := exprBackRow.holds Tryd.pinned (OpenSpec.ofChange exprBackSpec)

/-- ITS FALSE NEIGHBOUR: 'it returns false'. Refute it at one input. -/
def exprBackWrong : ChangeSpec := { name := "exprBack", fn := fun _ => fun
  | [d1, d2, d3] => { results := [.lit (.bool false)], args := [d1, d2, d3] }
  | _ => none }
def ExprBackWrongFalsely : Prop := exprBackRow.holds Tryd.pinned (OpenSpec.ofChange exprBackWrong)

/- THE SECOND FORM. 'bulk': how many values and letters a reading holds, each counted each time it is reached (what is shared counts as often as it is met; a slice's spare places count too). A statement '..UptoSaid' is the law's where the arguments, and the package variables that the reading takes, are together of bulk at most 1048576: NARROWER than '..Said'. Prove '..Said' where nothing that the law and all that it calls make is longer than what came in: it says more and counts as full. Else prove '..UptoSaid'. A law counts once. -/
mutual
def uptoBulk {H : Type} : DataW H → Nat
  | .lit (.string bytes) => bytes.length + 1
  | .lit _ => 1
  | .nil => 1
  | .ptr d => uptoBulk d + 1
  | .slice elems spare => uptoBulkAll elems + uptoBulkAll spare + 1
  | .agg parts => uptoBulkAll parts + 1
  | .iface _ d => uptoBulk d + 1
  | .map entries => uptoBulkEntries entries + 1
  | .held _ => 1
def uptoBulkAll {H : Type} : List (DataW H) → Nat
  | [] => 0
  | d :: r => uptoBulk d + uptoBulkAll r
def uptoBulkEntries {H : Type} : List (Lit × DataW H) → Nat
  | [] => 0
  | x :: r => uptoBulkEntry x + uptoBulkEntries r
def uptoBulkEntry {H : Type} : Lit × DataW H → Nat
  | (.string bytes, d) => bytes.length + uptoBulk d + 1
  | (_, d) => uptoBulk d + 1
 end
def uptoSmall : (H : Type) → List (DataW H) → Bool := fun _ ds => decide (uptoBulkAll ds ≤ 1048576)
def OpenSpec.upto (s : _root_.Go.ChangeSpec) : _root_.Go.OpenSpec := { _root_.Go.OpenSpec.ofChange s with cond := some uptoSmall }

/-- 'linotypelaw23.ExprFree', WHERE WHAT IT READS IS OF BULK AT MOST 1048576: true; the input reads as it did. -/
def exprFreeUptoRow : OpenClaim := { program := "ytpaddkkfefgkfaadoor", sum := "3e65af0da1bd6f4657bd08414832c75ee81ba1913fbd87fb54ba8120a38fae43", func := "linotype/linotypelaw23.ExprFree", spec := "exprFree", inPlace := ["math/bits.Add64"], recurses := true, named := ["linotype/token.signs"], apart := false, laid := [("linotype/token.signs", laid_linotype_token_signs)], narrowed := true }
def ExprFreeUptoSaid : Prop := exprFreeUptoRow.holds Tryd.pinned (OpenSpec.upto exprFreeSpec)

/-- 'linotypelaw23.ExprBack', WHERE WHAT IT READS IS OF BULK AT MOST 1048576: true; the input reads as it did. -/
def exprBackUptoRow : OpenClaim := { program := "ytpaddkkfefgkfaadoor", sum := "3e65af0da1bd6f4657bd08414832c75ee81ba1913fbd87fb54ba8120a38fae43", func := "linotype/linotypelaw23.ExprBack", spec := "exprBack", inPlace := ["math/bits.Add64"], unfollowed := true, recurses := true, named := ["linotype/token.signs"], apart := false, laid := [("linotype/token.signs", laid_linotype_token_signs)], narrowed := true }
def ExprBackUptoSaid : Prop := exprBackUptoRow.holds Tryd.pinned (OpenSpec.upto exprBackSpec)

end Rows
end Go.Proofs.YtpaddkkfefgkfaaDoor
