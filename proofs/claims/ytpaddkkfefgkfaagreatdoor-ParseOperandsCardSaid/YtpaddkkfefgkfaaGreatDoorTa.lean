/- Blanks more between tokens: the same tokens. -/
import Derived.Test.YtpaddkkfefgkfaaGreatDoorSg
import Derived.Test.YtpaddkkfefgkfaaGreatDoorGrj
set_option linter.unusedVariables false
set_option linter.unusedSimpArgs false
namespace Go.Proofs.YtpaddkkfefgkfaaGreatDoor.ps
open Go.Tv Go.Ev Go.Px Go.Pp Go.Proofs.YtpaddkkfefgkfaaGreatDoor.ex
set_option maxRecDepth 100000
noncomputable section
def agv (bl e:List UInt8):List Tok->List UInt8
 |[]=>e
 |y::l=>lt.qc y++32::(bl++agv bl e l)
def agw (c:UInt8):Bool:=decide (aD c=32\/aD c=9)
def akk (e:List UInt8):Prop:=e=[]\/∃r,e=59::r
end
end Go.Proofs.YtpaddkkfefgkfaaGreatDoor.ps
