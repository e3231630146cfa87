/- Tk6, where all listed variables are known. -/
import Derived.Test.YtcafcgiemdlobaaDoorUk5
namespace Go.Proofs.YtcafcgiemdlobaaDoor.lt.t
open Go.Tv Go.Ev Go.Proofs.YtcafcgiemdlobaaDoor.lt

noncomputable def jL0 (s : List UInt8) (r m : Nat) (left : List UInt8) : OutL := loopN (Xg gvT) (d5 (AV × Option Row)) anLx r 15 pLx kGet m (stLx s .nils left) mT
noncomputable def jL1 (s : List UInt8) (r m : Nat) (out : List Piece) (k : Nat) (left : List UInt8) : OutL := loopN (Xg gvT) (d5 (AV × Option Row)) anLx r 15 pLx kGet m (stLx s (.own 1 k) left) (memOf [.cells 27 [.int .i64 0, .int .i64 0], .list 32 tyTok out 0 false false])
theorem stepL0 (s : List UInt8) (r m : Nat) (left : List UInt8) : jL0 s r (m + 1) left = treeL s left (errL 0 0) (jL0 s r m) (fun x => x) (fun p => jL1 s r m [p] 1) := by kernel_rfl
theorem stepL1 (s : List UInt8) (r m : Nat) (out : List Piece) (k : Nat) (left : List UInt8) : jL1 s r (m + 1) out k left = treeL s left (endL out k) (jL1 s r m out k) (room1 out) (fun p => jL1 s r m (out ++ [p]) (out.length + 1)) := by kernel_rfl
theorem enterL (s : List UInt8) (m : Nat) : enterT (Xg gvT) (d5 (AV × Option Row)) anLx m 15 [.str s] TMem.empty kGet = pick2 (ltI 1000 ↑s.length) (errL 3 1000) (jL0 s m m s) := by kernel_rfl
end Go.Proofs.YtcafcgiemdlobaaDoor.lt.t
