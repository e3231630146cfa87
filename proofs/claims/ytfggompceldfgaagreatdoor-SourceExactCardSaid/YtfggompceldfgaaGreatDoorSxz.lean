/- SourceExact: all pairs (printed by gen_sx.py). -/
import Derived.Test.YtfggompceldfgaaGreatDoorSxa
import Derived.Test.YtfggompceldfgaaGreatDoorSxb
import Derived.Test.YtfggompceldfgaaGreatDoorSxc
import Derived.Test.YtfggompceldfgaaGreatDoorSxd
import Derived.Test.YtfggompceldfgaaGreatDoorSxe
import Derived.Test.YtfggompceldfgaaGreatDoorSxf
import Derived.Test.YtfggompceldfgaaGreatDoorSxg
import Derived.Test.YtfggompceldfgaaGreatDoorSxh
import Derived.Test.YtfggompceldfgaaGreatDoorSxi
import Derived.Test.YtfggompceldfgaaGreatDoorSxj
import Derived.Test.YtfggompceldfgaaGreatDoorSxk
import Derived.Test.YtfggompceldfgaaGreatDoorSxl
import Derived.Test.YtfggompceldfgaaGreatDoorSxm
import Derived.Test.YtfggompceldfgaaGreatDoorSxn
import Derived.Test.YtfggompceldfgaaGreatDoorSxo
import Derived.Test.YtfggompceldfgaaGreatDoorSxp
import Derived.Test.YtfggompceldfgaaGreatDoorSxq
import Derived.Test.YtfggompceldfgaaGreatDoorSxr
import Derived.Test.YtfggompceldfgaaGreatDoorSxs
namespace Go.Proofs.YtfggompceldfgaaGreatDoor.sx
theorem all_rows {a : Int} (h0 : -9 ≤ a) (h1 : a ≤ 9) : rowE a = true := by
  have : a = -9 ∨ a = -8 ∨ a = -7 ∨ a = -6 ∨ a = -5 ∨ a = -4 ∨ a = -3 ∨ a = -2 ∨ a = -1 ∨ a = 0 ∨ a = 1 ∨ a = 2 ∨ a = 3 ∨ a = 4 ∨ a = 5 ∨ a = 6 ∨ a = 7 ∨ a = 8 ∨ a = 9 := by omega
  rcases this with rfl | rfl | rfl | rfl | rfl | rfl | rfl | rfl | rfl | rfl | rfl | rfl | rfl | rfl | rfl | rfl | rfl | rfl | rfl
  · exact rowm9
  · exact rowm8
  · exact rowm7
  · exact rowm6
  · exact rowm5
  · exact rowm4
  · exact rowm3
  · exact rowm2
  · exact rowm1
  · exact row0
  · exact row1
  · exact row2
  · exact row3
  · exact row4
  · exact row5
  · exact row6
  · exact row7
  · exact row8
  · exact row9
theorem exactE (a b : Int) : stE (IntKind.wrap .i64 (pkI a 19 - 9)) (IntKind.wrap .i64 (pkI b 19 - 9)) = some (.bool true) := by
  have h1 := pkI_range a 19 (by decide) (by decide)
  have h2 := pkI_range b 19 (by decide) (by decide)
  rw [Tv.i64_in (n := pkI a 19 - 9) (by omega) (by omega), Tv.i64_in (n := pkI b 19 - 9) (by omega) (by omega)]
  exact row_spec (all_rows (by omega) (by omega)) (by omega) (by omega)
end Go.Proofs.YtfggompceldfgaaGreatDoor.sx
