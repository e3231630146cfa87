/- LiteralScans comes to true. -/
import Derived.Test.YtcafcgiemdlobaaDoorLg
namespace Go.Proofs.YtcafcgiemdlobaaDoor.lt
open Go.Tv Go.Ev
noncomputable def L6 : List Con := [(17, [none, none], gScan), (18, [none, none], gScan), (19, [], gYes)]
theorem L6_ok : TabOk (Xg gvL) (cfOf (Xg gvL) noKnown) L6 := .cons (con17 gvL) (.cons (con18 gvL) (.cons con19 .nil))
noncomputable def c6 (β : Type) : CallT β := callT (Xg gvL) (tab L6) inl 200 β 20
theorem c6_ok (β : Type) : CallTOk (Xg gvL) (cfOf (Xg gvL) noKnown) (c6 β) := callT_ok L6_ok (fun _ _ _ => rfl) 200 20 β
theorem treeScans (s : List UInt8) (a : Int) : enterT (Xg gvL) (c6 AV) an0 20 5 [.str s, .int .i64 a] TMem.empty (fun v _ => some v) =
    pick2 (ltI 300 ↑s.length) (some (.bool true)) (pick2 (Nat.ble s.length 999999) (pick2 (Nat.ble s.length 999999)
      (pick2 (eqI (scanS s a).1 (scanS s a).1) (pick2 (eqI (scanS s a).2.1 (scanS s a).2.1) (pick2 (decide ((scanS s a).2.2.1 = (scanS s a).2.2.1) && decide ((scanS s a).2.2.2 = (scanS s a).2.2.2)) (some (.bool true)) (some (.bool false))) (some (.bool false))) (some (.bool false))) none) none) := by kernel_rfl
theorem scans (s : List UInt8) (a : Int) : enterT (Xg gvL) (c6 AV) an0 20 5 [.str s, .int .i64 a] TMem.empty (fun v _ => some v) = some (.bool true) := by
  rw [treeScans, pick_lt]
  split
  · rfl
  · rw [bleT (by omega), eqT rfl, eqT rfl, decide_eq_true rfl, decide_eq_true rfl]; rfl
end Go.Proofs.YtcafcgiemdlobaaDoor.lt
