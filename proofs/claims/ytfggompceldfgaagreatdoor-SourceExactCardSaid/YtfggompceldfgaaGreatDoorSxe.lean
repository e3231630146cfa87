/- SourceExact: pairs (printed by gen_sx.py). -/
import Derived.Test.YtfggompceldfgaaGreatDoorSx
namespace Go.Proofs.YtfggompceldfgaaGreatDoor.sx
theorem rowm5 : rowE (-5) = true := by kernel_rfl
end Go.Proofs.YtfggompceldfgaaGreatDoor.sx
