/- SourceExact: pairs (printed by gen_sx.py). -/
import Derived.Test.YtfggompceldfgaaGreatDoorSx
namespace Go.Proofs.YtfggompceldfgaaGreatDoor.sx
theorem rowm2 : rowE (-2) = true := by kernel_rfl
end Go.Proofs.YtfggompceldfgaaGreatDoor.sx
