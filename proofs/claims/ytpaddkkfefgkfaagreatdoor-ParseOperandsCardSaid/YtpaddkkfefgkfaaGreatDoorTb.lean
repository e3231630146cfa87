/- LineBlanks: the law's run, and that it answers true. -/
import Derived.Test.YtpaddkkfefgkfaaGreatDoorTa
import Derived.Test.YtpaddkkfefgkfaaGreatDoorGri
set_option linter.unusedVariables false
set_option linter.unusedSimpArgs false
namespace Go.Proofs.YtpaddkkfefgkfaaGreatDoor.ps
open Go.Tv Go.Ev Go.Px Go.Pp Go.Proofs.YtpaddkkfefgkfaaGreatDoor.ex
set_option maxRecDepth 100000
noncomputable section
def Q5:List kH:=(12,[],Zs)::(28,[some aH],lt.Ve)::S1
def yT:Option AV:=some (.bool true)
def nT:Option AV:=some (.bool false)
def pLb:List Bool:=[true,true,true,true,true,true,false,true,false]
def agx:bG:=⟨cG [0,2,7,8,10,11,12] pLb,.none,[]⟩
def jLb (ro:Bool) (s r bl:List UInt8) (L:List Tok) (q m:Nat) (i:Int) (t:List UInt8):Option AV:=cK ex.X0 (cN Q5 NS3 _) agx q 6 pLb (λv _=>some v) m (fY 97 [(0,.str s),(2,.str r),(7,.bool true),(8,.own 0 L.length),(10,.str bl),(11,.str t),(12,.int .i64 i)]) (iC [.list 106 aH L 0 false ro])
def acJ (n:Nat) (X:Option AV):Option AV:=pick2 (Nat.ble n 9223372036854775807) X none
def fiT (s r t:List UInt8):Option AV :=
 acJ (t.length+1) (acJ ((t++[59]).length+r.length) (pick2 (ltI 1000 (t++[59]++r).length) yT (pick2 (okS (qa s).1) (pick2 (eqS (qa s).1 (qa (t++[59]++r)).1) (some (.bool (eqI (qa s).2.1 (qa (t++[59]++r)).2.1))) nT) none)))
def sp5:List UInt8:=[32,32,32,32,32]
def agy (bl:List UInt8):List Tok->List UInt8
 |[]=>[]
 |y::l=>lt.qc y++[32]++bl++agy bl l
end
end Go.Proofs.YtpaddkkfefgkfaaGreatDoor.ps
