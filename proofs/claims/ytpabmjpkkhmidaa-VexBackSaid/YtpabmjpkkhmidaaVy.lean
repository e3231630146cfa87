/- VexBack: contracts of Check and packed. -/
import Derived.Test.YtpabmjpkkhmidaaRx
import Derived.Test.YtpabmjpkkhmidaaTd
namespace Go.Proofs.Ytpabmjpkkhmidaa
open Go.Tv Go.Ev

noncomputable def bit {β : Type} (n : Int) (F B : β) : β := pick2 (!eqI n 0) (pick2 (!eqI n 1) B F) F
noncomputable def agV (r x b m w v l p : Int) : AV := .agg [.int .i64 r, .int .i64 x, .int .i64 b, .int .i64 m, .int .i64 w, .int .i64 v, .int .i64 l, .int .i64 p]
noncomputable def chk {β : Type} (r x b m w v l p : Int) (F : Int → β) : β :=
  bit r (bit x (bit b (bit w (bit l (pick2 (ltI m 1) (F 2) (pick2 (ltI 3 m) (F 2) (pick2 (ltI v 0) (F 2) (pick2 (ltI 15 v) (F 2) (pick2 (eqI p 0) (pick2 (eqI p 0) (F 0) (F 2)) (pick2 (eqI p 1) (pick2 (eqI p 1) (F 0) (F 2)) (pick2 (eqI p 2) (pick2 (eqI p 2) (F 0) (F 2)) (pick2 (eqI p 4) (F 0) (F 2))))))))) (F 2)) (F 2)) (F 2)) (F 2)) (F 2)
theorem t53 (r x b m w v l p : Int) : (enterT X0 (c0 (Option AV)) an0 9 53 [agV r x b m w v l p] TMem.empty fun v _ => some (some v)) = chk r x b m w v l p fun e => some (some (.int .i64 e)) := by kernel_rfl
theorem t63 (p : Int) : (enterT X0 (c0 (Option AV)) an0 9 63 [.int .i64 p] TMem.empty fun v _ => some (some v)) = pick2 (eqI p 1) (some (some (.int .i64 1))) (pick2 (eqI p 4) (some (some (.int .i64 2))) (pick2 (eqI p 2) (some (some (.int .i64 3))) (some (some (.int .i64 0))))) := by kernel_rfl
end Go.Proofs.Ytpabmjpkkhmidaa
