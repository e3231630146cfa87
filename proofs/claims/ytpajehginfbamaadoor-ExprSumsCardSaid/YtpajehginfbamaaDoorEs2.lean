/- ExprSums: what its trees are. -/
import Derived.Test.YtpajehginfbamaaDoorEs
namespace Go.Proofs.YtpajehginfbamaaDoor.es
open Go.Tv Go.Ev
noncomputable section
/-- What an operator makes of two numbers. -/
def rk : Nat → Int → Int → Int
  | 0, a, b => IntKind.wrap .i64 (a + b)
  | 1, a, b => IntKind.wrap .i64 (a - b)
  | 2, a, b => IntKind.wrap .i64 (a * b)
  | 3, a, b => IntKind.wrap .i64 ↑(BitVec.toNat (BitVec.ofInt 64 a &&& BitVec.ofInt 64 b))
  | 4, a, b => IntKind.wrap .i64 ↑(BitVec.toNat (BitVec.ofInt 64 a ^^^ BitVec.ofInt 64 b))
  | _, a, b => IntKind.wrap .i64 ↑(BitVec.toNat (BitVec.ofInt 64 a ||| BitVec.ofInt 64 b))
def three (x y z : Int) : Option AV := pick2 (eqI x x) (pick2 (eqI y y) (pick2 (eqI z z) (some (.bool true)) (some (.bool false))) (some (.bool false))) (some (.bool false))
end
theorem three_ok (x y z : Int) : three x y z = some (.bool true) := by
  unfold three
  rw [eqT rfl, eqT rfl, eqT rfl]
end Go.Proofs.YtpajehginfbamaaDoor.es
