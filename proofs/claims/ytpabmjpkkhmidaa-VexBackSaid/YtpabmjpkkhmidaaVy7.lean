/- VexBack: the function's trees. -/
import Derived.Test.YtpabmjpkkhmidaaVy6
namespace Go.Proofs.Ytpabmjpkkhmidaa
open Go.Tv Go.Ev
noncomputable section
def pA : List Bool := [true, true, true, true, true]
def pB : List Bool := [true, true, true, true, true, true]
def pC : List Bool := [true, true, true, true, true, true, true, true, true, true]
def an14 : FnAnn := { ann := annPlus (annPlus (annOf [1, 2, 3, 7, 8, 9] pA) (annOf [1, 2, 7] pB)) (annOf [2, 7, 18, 19, 21, 22, 23] pC), ja := .none, tr := [] }
def cells (r x b m w v l p : Int) : Row := .cells 59 [.int .i64 r, .int .i64 x, .int .i64 b, .int .i64 m, .int .i64 w, .int .i64 v, .int .i64 l, .int .i64 p]
def ways (L : List (List Int)) : Row := .list 22 (.sl (.int .u8)) L 0 false false
/-- Ahead of the loop over the ways: none; some. -/
def F1 (ei : Bool) (z : List Int) (s : AV) (e : Int) : TFr := frOf 195 [(1, .bool ei), (2, .lst (.int .u8) z), (3, .ptr 0 0), (7, .bool true), (8, s), (9, .int .i64 e)]
def F2 (ei : Bool) (z : List Int) : TFr := frOf 195 [(1, .bool ei), (2, .lst (.int .u8) z), (7, .bool true)]
def F3 (z : List Int) (n : Int) (s : AV) (e : Int) : TFr := frOf 195 [(2, .lst (.int .u8) z), (7, .bool true), (18, .ptr 0 0), (19, .int .i64 n), (21, s), (22, .int .i64 e), (23, .bool false)]

variable {β : Type}
/-- The ways of some fields: by how many. -/
def allT (r x b m w v l p : Int) (ei : Bool) (C : List (List Int) → Option β) : Option β :=
  pick2 ei
    (pick2 (eqI x 0) (pick2 (eqI b 0) (pick2 (eqI m 1)
        (pick2 ei (C [[197, bO r v l (pkI p)], longL r x b m 0 v l p, longL r x b m 1 v l p]) (C [[197, bO r v l (pkI p)], longL r x b m 0 v l p]))
        (pick2 ei (C [longL r x b m 0 v l p, longL r x b m 1 v l p]) (C [longL r x b m 0 v l p])))
      (pick2 ei (C [longL r x b m 0 v l p, longL r x b m 1 v l p]) (C [longL r x b m 0 v l p])))
      (pick2 ei (C [longL r x b m 0 v l p, longL r x b m 1 v l p]) (C [longL r x b m 0 v l p])))
    (pick2 (eqI x 0) (pick2 (eqI b 0) (pick2 (eqI w 0) (pick2 (eqI m 1)
        (pick2 ei (C [[197, bO r v l (pkI p)], longL r x b m w v l p, longL r x b m 1 v l p]) (C [[197, bO r v l (pkI p)], longL r x b m w v l p]))
        (pick2 ei (C [longL r x b m w v l p, longL r x b m 1 v l p]) (C [longL r x b m w v l p])))
      (pick2 ei (C [longL r x b m w v l p, longL r x b m 1 v l p]) (C [longL r x b m w v l p])))
      (pick2 ei (C [longL r x b m w v l p, longL r x b m 1 v l p]) (C [longL r x b m w v l p])))
      (pick2 ei (C [longL r x b m w v l p, longL r x b m 1 v l p]) (C [longL r x b m w v l p])))

def treeA (r x b m w v l p : Int) (ei : Bool) (z : List Int) (k : AV → Option β) (K : TFr → TMem → Option β) : Option β :=
  pick2 (ltI 20 ↑(List.length z)) (k (.bool true)) (pick2 (!eqI (chkI r x b m w v l p) 0)
    (pick2 (eqI (chkI r x b m w v l p) 0) (k (.bool false)) (K (F1 ei z .nils (chkI r x b m w v l p)) (memOf [cells r x b m w v l p])))
    (allT r x b m w v l p ei fun L => K (F1 ei z (.own 1 L.length) 0) (memOf [cells r x b m w v l p, ways L])))
theorem runA (r x b m w v l p : Int) (ei : Bool) (z : List Int) (k : AV → Option β) (K : TFr → TMem → Option β) :
    preT X0 (dV5 β) an14 10 14 pA [agV r x b m w v l p, .bool ei, .lst (.int .u8) z] TMem.empty (fun v _ => k v) K = treeA r x b m w v l p ei z k K := by kernel_rfl

/-- A way: it is read as what it tells; cut short it is not. -/
def wayI (q z : List Int) (r x b m w w' v l p : Int) (bad nx : Option β) : Option β :=
  pick2 (!eqI (nth (vr ([] ++ q ++ z)) 9) 0) bad (pick2 (!eqI (nth (vr ([] ++ q ++ z)) 8) ↑(List.length q)) bad
    (pick2 (!(decide (nth (vr ([] ++ q ++ z)) 0 = r) && (decide (nth (vr ([] ++ q ++ z)) 1 = x) && (decide (nth (vr ([] ++ q ++ z)) 2 = b) && (decide (nth (vr ([] ++ q ++ z)) 3 = m) && (decide (w' = w) &&
        (decide (nth (vr ([] ++ q ++ z)) 5 = v) && (decide (nth (vr ([] ++ q ++ z)) 6 = l) && decide (nth (vr ([] ++ q ++ z)) 7 = p))))))))) bad
      (pick2 (okB (cutL q 0 (IntKind.wrap .i64 (↑(List.length q) - 1)))) (pick2 (!eqI (nth (vr (cutL q 0 (IntKind.wrap .i64 (↑(List.length q) - 1)))) 9) 9) bad nx) none)))
def way (q z : List Int) (ei : Bool) (r x b m w v l p : Int) (bad nx : Option β) : Option β :=
  pick2 (Nat.ble (List.length ([] ++ q) + List.length z) 1000000) (pick2 (okB ([] ++ q ++ z)) (pick2 ei (wayI q z r x b m w w v l p bad nx) (wayI q z r x b m w (nth (vr ([] ++ q ++ z)) 4) v l p bad nx)) none) none
def sameD (q q' : List Int) (bad nx : Option β) : Option β := pick2 (decide (List.map iU8 q = List.map iU8 (cutL q' 0 ↑(List.length q)))) bad nx

section
variable (r x b m w v l p : Int) (ei : Bool) (z : List Int) (k : AV → Option β) (K : TFr → TMem → Option β)
theorem runB0 (e : Int) : midT X0 (dV5 β) an14 10 14 pA [true] (fun v _ => k v) K (F1 ei z .nils e) (memOf [cells r x b m w v l p]) = K (F2 ei z) (memOf []) := by kernel_rfl
theorem runB1 (a c : Int) : midT X0 (dV5 β) an14 10 14 pA [true] (fun v _ => k v) K (F1 ei z (.own 1 1) 0) (memOf [cells r x b m w v l p, ways [[196, a, c]]]) =
    way [196, a, c] z ei r x b m w v l p (k (.bool false)) (K (F2 ei z) (memOf [])) := by kernel_rfl
theorem runB2 (n a c : Int) : midT X0 (dV5 β) an14 10 14 pA [true] (fun v _ => k v) K (F1 ei z (.own 1 2) 0) (memOf [cells r x b m w v l p, ways [[197, n], [196, a, c]]]) =
    way [197, n] z ei r x b m w v l p (k (.bool false)) (way [196, a, c] z ei r x b m w v l p (k (.bool false)) (K (F2 ei z) (memOf []))) := by kernel_rfl
theorem runB3 (a c a' c' : Int) : midT X0 (dV5 β) an14 10 14 pA [true] (fun v _ => k v) K (F1 ei z (.own 1 2) 0) (memOf [cells r x b m w v l p, ways [[196, a, c], [196, a', c']]]) =
    way [196, a, c] z ei r x b m w v l p (k (.bool false)) (way [196, a', c'] z ei r x b m w v l p (k (.bool false)) (sameD [196, a, c] [196, a', c'] (k (.bool false)) (K (F2 ei z) (memOf [])))) := by kernel_rfl
theorem runB4 (n a c a' c' : Int) : midT X0 (dV5 β) an14 10 14 pA [true] (fun v _ => k v) K (F1 ei z (.own 1 3) 0) (memOf [cells r x b m w v l p, ways [[197, n], [196, a, c], [196, a', c']]]) =
    way [197, n] z ei r x b m w v l p (k (.bool false)) (way [196, a, c] z ei r x b m w v l p (k (.bool false)) (way [196, a', c'] z ei r x b m w v l p (k (.bool false)) (sameD [196, a, c] [196, a', c'] (k (.bool false)) (K (F2 ei z) (memOf []))))) := by kernel_rfl
end

def treeC (ei : Bool) (z : List Int) (k : AV → Option β) (K : TFr → TMem → Option β) : Option β :=
  pick2 (okB z) (pick2 (!eqI (nth (vr z) 9) 0)
    (pick2 (eqI (nth (vr z) 8) 0) (k (.bool (decide (nth (vr z) 0 = 0) && (decide (nth (vr z) 1 = 0) && (decide (nth (vr z) 2 = 0) && (decide (nth (vr z) 3 = 0) && (decide (nth (vr z) 4 = 0) && (decide (nth (vr z) 5 = 0) && (decide (nth (vr z) 6 = 0) && decide (nth (vr z) 7 = 0)))))))))) (k (.bool false)))
    (pick2 (!eqI (chkI (nth (vr z) 0) (nth (vr z) 1) (nth (vr z) 2) (nth (vr z) 3) (nth (vr z) 4) (nth (vr z) 5) (nth (vr z) 6) (nth (vr z) 7)) 0)
      (K (F3 z (nth (vr z) 8) .nils (chkI (nth (vr z) 0) (nth (vr z) 1) (nth (vr z) 2) (nth (vr z) 3) (nth (vr z) 4) (nth (vr z) 5) (nth (vr z) 6) (nth (vr z) 7))) (memOf [cells (nth (vr z) 0) (nth (vr z) 1) (nth (vr z) 2) (nth (vr z) 3) (nth (vr z) 4) (nth (vr z) 5) (nth (vr z) 6) (nth (vr z) 7)]))
      (allT (nth (vr z) 0) (nth (vr z) 1) (nth (vr z) 2) (nth (vr z) 3) (nth (vr z) 4) (nth (vr z) 5) (nth (vr z) 6) (nth (vr z) 7) ei fun L =>
        K (F3 z (nth (vr z) 8) (.own 1 L.length) 0) (memOf [cells (nth (vr z) 0) (nth (vr z) 1) (nth (vr z) 2) (nth (vr z) 3) (nth (vr z) 4) (nth (vr z) 5) (nth (vr z) 6) (nth (vr z) 7), ways L])))) none
theorem runC (ei : Bool) (z : List Int) (k : AV → Option β) (K : TFr → TMem → Option β) :
    midT X0 (dV5 β) an14 10 14 pB [true, true, true, true] (fun v _ => k v) K (F2 ei z) (memOf []) = treeC ei z k K := by kernel_rfl

def fin (chk : Int) (k : AV → Option β) (b : Bool) : Option β := pick2 (eqI chk 0) (k (.bool b)) (k (.bool false))
def fnd (q z : List Int) (n : Int) (yes no : Option β) : Option β :=
  pick2 (!ltI ↑(List.length z) n) (pick2 (!ltI n 0 && !ltI (Int.ofNat (List.length z)) n) (pick2 (decide (List.map iU8 q = List.map iU8 (cutL z 0 n))) yes no) none) no
def fndL (q z : List Int) (n chk : Int) (k : AV → Option β) : Option β :=
  pick2 (!ltI ↑(List.length z) n) (pick2 (!ltI n 0 && !ltI (Int.ofNat (List.length z)) n) (fin chk k (decide (List.map iU8 q = List.map iU8 (cutL z 0 n)))) none) (fin chk k false)
section
variable (r x b m w v l p : Int) (z : List Int) (n : Int) (k : AV → Option β)
theorem runD1 (a c : Int) : codeFrom X0 (dV5 β) an14 10 14 pC (fun v _ => k v) (F3 z n (.own 1 1) 0) (memOf [cells r x b m w v l p, ways [[196, a, c]]]) = fndL [196, a, c] z n (chkI r x b m w v l p) k := by kernel_rfl
theorem runD2 (o a c : Int) : codeFrom X0 (dV5 β) an14 10 14 pC (fun v _ => k v) (F3 z n (.own 1 2) 0) (memOf [cells r x b m w v l p, ways [[197, o], [196, a, c]]]) =
    fnd [197, o] z n (fin (chkI r x b m w v l p) k true) (fndL [196, a, c] z n (chkI r x b m w v l p) k) := by kernel_rfl
theorem runD3 (a c a' c' : Int) : codeFrom X0 (dV5 β) an14 10 14 pC (fun v _ => k v) (F3 z n (.own 1 2) 0) (memOf [cells r x b m w v l p, ways [[196, a, c], [196, a', c']]]) =
    fnd [196, a, c] z n (fin (chkI r x b m w v l p) k true) (fndL [196, a', c'] z n (chkI r x b m w v l p) k) := by kernel_rfl
theorem runD4 (o a c a' c' : Int) : codeFrom X0 (dV5 β) an14 10 14 pC (fun v _ => k v) (F3 z n (.own 1 3) 0) (memOf [cells r x b m w v l p, ways [[197, o], [196, a, c], [196, a', c']]]) =
    fnd [197, o] z n (fin (chkI r x b m w v l p) k true) (fnd [196, a, c] z n (fin (chkI r x b m w v l p) k true) (fndL [196, a', c'] z n (chkI r x b m w v l p) k)) := by kernel_rfl
end
end
end Go.Proofs.Ytpabmjpkkhmidaa
