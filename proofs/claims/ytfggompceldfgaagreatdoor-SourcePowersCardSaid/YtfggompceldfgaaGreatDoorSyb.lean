/- SourcePowers: both Powers come to the same. -/
import Derived.Test.YtfggompceldfgaaGreatDoorSya
namespace Go.Proofs.YtfggompceldfgaaGreatDoor.sy
open Go.Tv Go.Ev Go.Proofs.YtfggompceldfgaaGreatDoor.sx
noncomputable section
theorem enterLaw (re im n : Int) : enterT X1 (c3 AV) an0 100 3 [.int .i64 re, .int .i64 im, .int .i64 n] TMem.empty (fun v _ => some v) =
    pick2 (decide (List.map iU8 (pwF re im n) = List.map iU8 (pwF re im n))) (pick2 (eqI (if badB re im n = true then 5 else 0) (if badB re im n = true then 5 else 0)) (some (.bool true)) (some (.bool false))) (some (.bool false)) := by kernel_rfl
theorem powE (re im n : Int) : enterT X1 (c3 AV) an0 100 3 [.int .i64 re, .int .i64 im, .int .i64 n] TMem.empty (fun v _ => some v) = some (.bool true) := by
  have e : ∀ x : Int, eqI x x = true := fun x => (eqI_spec x x).trans (by simp)
  rw [enterLaw, decide_eq_true rfl, e]
end
end Go.Proofs.YtfggompceldfgaaGreatDoor.sy
