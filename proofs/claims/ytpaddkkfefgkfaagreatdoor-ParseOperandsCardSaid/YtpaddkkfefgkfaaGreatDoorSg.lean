/- Lines of a name: what they come to. -/
import Derived.Test.YtpaddkkfefgkfaaGreatDoorGri
import Derived.Test.YtpaddkkfefgkfaaGreatDoorGrb
set_option linter.unusedVariables false
set_option linter.unusedSimpArgs false
namespace Go.Proofs.YtpaddkkfefgkfaaGreatDoor.ps
open Go.Tv Go.Ev Go.Px Go.Pp Go.Proofs.YtpaddkkfefgkfaaGreatDoor.ex
set_option maxRecDepth 100000
noncomputable section
def akb (t:List UInt8):List Tok:=[(1,0,t,0),(4,0,[58],(t.length:Int))]
def akc (t:List UInt8):List Tok:=[(1,0,t,0),(1,0,X5,(t.length:Int)+1),(2,5,[],(t.length:Int)+5)]
def akd (t:List UInt8):List Tok:=[(1,0,vH,0),(1,0,t,6)]
section
variable {t:List UInt8}
end
def lkx (t:List UInt8) (k:Int) (x:List Nd):RS:={ xy with lab:=t,kind:=k,x:=x }
end
end Go.Proofs.YtpaddkkfefgkfaaGreatDoor.ps
