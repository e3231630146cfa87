/- Numbers in a row: what their line says. -/
import Derived.Test.YtpaddkkfefgkfaaGreatDoorNa
set_option linter.unusedVariables false
set_option linter.unusedSimpArgs false
namespace Go.Proofs.YtpaddkkfefgkfaaGreatDoor.ps
open Go.Tv Go.Ev Go.Px Go.Pp Go.Proofs.YtpaddkkfefgkfaaGreatDoor.ex
set_option maxRecDepth 100000
noncomputable section
def Qk:List UInt8:=[104,101,114,101]
def ah3 (lab:Bool) (w:List UInt8):List UInt8:=(if lab=true then Qk++[58,32] else [])++w
def ah4 (lab:Bool) (w:List UInt8):List Tok:=(if lab=true then [(1,0,Qk,0),(4,0,[58],0)] else [])++[(1,0,w,0)]
def akl (n:Int) (L:List Int):List UInt8:=32::(Ar n++Vf L)
def akm (n:Int) (L:List Int):List Tok:=acI n++Vg L
theorem sB {α:Type} (p q:List α) (t:α):at? (p++t::q) (p.length:Int)=some t:=by
 show (p++t::q)[p.length]? = some t
 simp
def cm:Tok:=(4,0,[44],0)
def ah5 (l:List Tok) (a:Int):Prop:=at? l a=none\/at? l a=some cm
def xN (n:Int):List Nd:=if n<0 then [(1,IntKind.wrap .i64 (n.natAbs:Int),[],0,0),(5,0,[],0,0)] else [(1,n,[],0,0)]
def dtN (n:Int):Dt:=([],xN n)
def ah6 (lab:Bool) (w:List UInt8) (D:List Dt):RS:={ xy with lab:=if lab=true then Qk else [],kind:=2,sz:=zu w,data:=D }
end
end Go.Proofs.YtpaddkkfefgkfaaGreatDoor.ps
