/- SourceEmpty, as it runs. -/
import Derived.Test.YtbeckacfibledaaGreatDoorGya
set_option linter.unusedVariables false
set_option linter.unusedSimpArgs false

namespace Go.Proofs.YtbeckacfibledaaGreatDoor.ps.sr
open Go.Tv Go.Ev Go.Px Go.Pp Go.Proofs.YtbeckacfibledaaGreatDoor.ex
set_option maxRecDepth 100000
noncomputable section
def liC (o:Int)(a b m k:Nat):Row:=.cells 27 [.int .i64 o,.own a m,.own b k]
def H9 (n:Nat)(k:bx):bx:=ah (Nat.ble n 9223372036854775807) k none
def abE (l:cK)(i:Int)(y:It)(n:Int):cK:=l.set i.toNat (n,y.2.1,y.2.2.1,(y.2.2.2.1.1,y.2.2.2.1.2.1,y.2.2.2.1.2.2),y.2.2.2.2.1,y.2.2.2.2.2.1,y.2.2.2.2.2.2)
theorem Wk:Quiet lJ:=⟨rfl,rfl,rfl⟩
end
end Go.Proofs.YtbeckacfibledaaGreatDoor.ps.sr
