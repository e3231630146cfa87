/- TokenParts: its two loops. -/
import Derived.Test.YtcafcgiemdlobaaDoorTn
namespace Go.Proofs.YtcafcgiemdlobaaDoor.lt
open Go.Tv Go.Ev
noncomputable def jPa (s : List UInt8) (l : List Piece) (r m : Nat) (e i : Int) : Option AV := loopN (Xg gvS) (d6 AV) anPa r 4 pPa (fun v _ => some v) m (frOf 122 [(0, .str s), (3, .bool true), (4, .own 0 l.length), (6, .int .i64 e), (7, .int .i64 i)]) (memOf [.list 32 tyTok l 0 false false])
noncomputable def jPi (s : List UInt8) (l : List Piece) (r n m : Nat) (e i : Int) (y : Piece) (k : Int) : Option AV := loopIn (Xg gvS) (d6 AV) anPa r 4 pPa qPa (fun v _ => some v) n m (frOf 122 [(0, .str s), (3, .bool true), (4, .own 0 l.length), (6, .int .i64 e), (7, .int .i64 i), (8, .ptr 1 0), (9, .int .i64 k)]) (memOf [.list 32 tyTok l 0 false false, .cells [.int .i64 y.1, .int .i64 y.2.1, .str y.2.2.1, .int .i64 y.2.2.2]])
theorem enterPa (s : List UInt8) (m : Nat) : enterT (Xg gvS) (d6 AV) anPa m 4 [.str s] TMem.empty (fun v _ => some v) = pick2 (ltI 1000 ↑s.length) (some (.bool true)) (pick2 (!eqI (lexC s).2.1 0) (some (.bool true)) (jPa s (lexC s).1 m m 0 0)) := by kernel_rfl
theorem stepPa (s : List UInt8) (l : List Piece) (r m : Nat) (e i : Int) : jPa s l r (m + 1) e i = pick2 (ltI i ↑l.length) (Option.rec (motive := fun _ => Option AV) none (fun y : Piece => pick2 (ltI y.2.2.2 e) (some (.bool false)) (pick2 (!ltI y.2.2.2 ↑s.length) (some (.bool false)) (jPi s l r m r e i y e))) (getI l i)) (some (.bool true)) := by kernel_rfl
noncomputable def seeP (s : List UInt8) (i k : Int) (next : Option AV) : Option AV :=
  pick2 (eqI i 0) (Option.rec (motive := fun _ => Option AV) none (fun c => pick2 (!eqI (u8I c) 32) (Option.rec (motive := fun _ => Option AV) none (fun c => pick2 (!eqI (u8I c) 9) (some (.bool false)) next) (getI s k)) next) (getI s k)) next
noncomputable def endP (s c : List UInt8) (d : Int) (next : Option AV) : Option AV :=
  pick2 (ltI ↑s.length (IntKind.wrap .i64 (d + ↑c.length))) (some (.bool false)) (pick2 (!ltI d 0 && !ltI (IntKind.wrap .i64 (d + ↑c.length)) d && !ltI ↑s.length (IntKind.wrap .i64 (d + ↑c.length)))
    (pick2 (!decide (cutL s d (IntKind.wrap .i64 (d + ↑c.length)) = c)) (some (.bool false)) (pick2 (decide (c = [])) (some (.bool false)) next)) none)
noncomputable def treePi (s : List UInt8) (i : Int) (y : Piece) (k : Int) (next out : Option AV) : Option AV :=
  pick2 (ltI k y.2.2.2) (pick2 (eqI y.1 1) (seeP s i k next) (pick2 (eqI y.1 4) (seeP s i k next) next)) (pick2 (eqI y.1 1) (endP s y.2.2.1 y.2.2.2 out) (pick2 (eqI y.1 4) (endP s y.2.2.1 y.2.2.2 out) out))
theorem stepPi (s : List UInt8) (l : List Piece) (r n m : Nat) (e i : Int) (y : Piece) (k : Int) : jPi s l r n (m + 1) e i y k = treePi s i y k (jPi s l r n m e i y (IntKind.wrap .i64 (k + 1))) (jPa s l r n (IntKind.wrap .i64 (y.2.2.2 + pick2 (ltI ↑y.2.2.1.length 1) 1 ↑y.2.2.1.length)) (IntKind.wrap .i64 (i + 1))) := by kernel_rfl
end Go.Proofs.YtcafcgiemdlobaaDoor.lt
