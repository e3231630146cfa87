/- LiteralTells comes to true. -/
import Derived.Test.YtcafcgiemdlobaaDoorLe
namespace Go.Proofs.YtcafcgiemdlobaaDoor.lt
open Go.Tv Go.Ev
noncomputable def L9 : List Con := [(20, [none], gHex), (22, [none], gDec), (51, [none, none, none], gTell), (19, [], gYes), (17, [none, none], gScan)]
theorem L9_ok : TabOk (Xg gvL) (cfOf (Xg gvL) noKnown) L9 := .cons con20 (.cons con22 (.cons (con51 gvL) (.cons con19 (.cons (con17 gvL) .nil))))
noncomputable def c9 (β : Type) : CallT β := callT (Xg gvL) (tab L9) inl 200 β 20
theorem c9_ok (β : Type) : CallTOk (Xg gvL) (cfOf (Xg gvL) noKnown) (c9 β) := callT_ok L9_ok (fun _ _ _ => rfl) 200 20 β
noncomputable def inI (n : Int) : Bool := !ltI n (-9223372036854775808) && ltI n 9223372036854775808
theorem treeTells (n : Int) : enterT (Xg gvL) (c9 AV) an0 5 6 [.int .i64 n] TMem.empty (fun v _ => some v) =
    pick2 (inI n) (pick2 (!ltI n (-9223372036854775808) && ltI n 9223372036854775808 && !ltI 16 2 && !ltI 16 16 && Nat.ble 2 999) (pick2 (decide (telS 16 [48, 120] n = telS 16 [48, 120] n))
      (pick2 (inI n) (pick2 (!ltI n (-9223372036854775808) && ltI n 9223372036854775808 && !ltI 10 2 && !ltI 16 10 && Nat.ble 0 999) (pick2 (decide (telS 10 [] n = telS 10 [] n)) (some (.bool true)) (some (.bool false))) none) none)
      (some (.bool false))) none) none := by kernel_rfl
theorem tells {n : Int} (h0 : -9223372036854775808 ≤ n) (h1 : n < 9223372036854775808) : enterT (Xg gvL) (c9 AV) an0 5 6 [.int .i64 n] TMem.empty (fun v _ => some v) = some (.bool true) := by
  rw [treeTells]
  unfold inI
  rw [ltF (a := n) h0, ltT h1, decide_eq_true rfl, decide_eq_true rfl]
  rfl
end Go.Proofs.YtcafcgiemdlobaaDoor.lt
