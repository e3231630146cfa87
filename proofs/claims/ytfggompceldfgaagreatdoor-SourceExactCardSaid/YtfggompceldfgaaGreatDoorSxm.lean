/- SourceExact: pairs (printed by gen_sx.py). -/
import Derived.Test.YtfggompceldfgaaGreatDoorSx
namespace Go.Proofs.YtfggompceldfgaaGreatDoor.sx
theorem row3 : rowE (3) = true := by kernel_rfl
end Go.Proofs.YtfggompceldfgaaGreatDoor.sx
