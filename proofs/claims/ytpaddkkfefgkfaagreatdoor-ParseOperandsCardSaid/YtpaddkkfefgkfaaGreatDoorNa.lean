/- Numbers in a row: the tokens of their text. -/
import Derived.Test.YtpaddkkfefgkfaaGreatDoorTa
set_option linter.unusedVariables false
set_option linter.unusedSimpArgs false
namespace Go.Proofs.YtpaddkkfefgkfaaGreatDoor.ps
open Go.Tv Go.Ev Go.Px Go.Pp Go.Proofs.YtpaddkkfefgkfaaGreatDoor.ex
set_option maxRecDepth 100000
noncomputable section
theorem zH {p w e r:List UInt8} {d:UInt8} {y:Tok} (hw:w=d::r) (hb:¬(aD d=32\/aD d=9)) (hs:aD d≠59) (hp:lt.cV (p++w++e) d p.length=(y,(p.length:Int)+(w.length:Nat),0,0)) (n:Nat) :
 lt.dH (p++w++e) (n+1) (w++e)=(y::(lt.dH (p++w++e) n e).1,(lt.dH (p++w++e) n e).2):=by
 have ha:(p++w++e).length-((r++e).length+1)=p.length:=by rw[hw];simp
 have h0:lt.dH (p++w++e) (n+1) (w++e)=lt.dH (p++w++e) (n+1) (d::(r++e)):=by
  congr 1
  rw[hw];rfl
 rw[h0,lt.dH,if_neg hb,if_neg hs,ha,hp,if_pos rfl]
 have hd2:(p++w++e).drop ((p.length:Int)+((w.length:Nat):Int)).toNat=e:=by
  have e1:((p.length:Int)+((w.length:Nat):Int)).toNat=(p++w).length:=by simp;omega
  rw[e1,List.drop_left]
 simp only[hd2]
def zI:List UInt8->Prop
 |[]=>True
 |c::_=>lt.dM (aD c)=false
theorem zJ {w e:List UInt8} (hw:∀c∈w,lt.dM (aD c)=true) (he:zI e):(w++e).takeWhile (λc=>lt.dM (aD c))=w:=by
 induction w with
 |
  nil =>
  cases e with
  |nil=>rfl
  |
   cons c q =>
   have he:lt.dM (aD c)=false:=he;rw[List.nil_append,List.takeWhile_cons,if_neg (by rw[he];exact Bool.false_ne_true)]
 |cons c w ih=>rw[List.cons_append,List.takeWhile_cons,if_pos (hw c (by simp)),ih λx hx=>hw x (by simp[hx])]
def iT (u:Nat):List UInt8:=[48,120]++lt.iS 16 64 u []
theorem TL {p e:List UInt8} {u:Nat} (hu:u<18446744073709551616) (he:zI e) (n:Nat) :
 lt.dH (p++iT u++e) (n+1) (iT u++e)=((2,IntKind.wrap .i64 (u:Int),[],(p.length:Int))::(lt.dH (p++iT u++e) n e).1,(lt.dH (p++iT u++e) n e).2):=by
 refine zH (w:=iT u) (d:=48) (r:=120::lt.iS 16 64 u []) rfl (by decide) (by decide) ?_ n
 have hD:(p++iT u++e).drop p.length=iT u++e:=by rw[List.append_assoc,List.drop_left]
 have hsc:lt.dN (p++iT u++e) (p.length:Int)=lt.l7 (iT u) p.length:=by
  rw[lt.B5 (d:=48) (r:=120::lt.iS 16 64 u []++e) (by rw[hD];rfl),if_neg (by decide),if_pos (by decide),hD,zJ (w:=iT u) (lt.Ly hu) he]
 unfold lt.cV
 rw[if_neg (by decide),if_pos (by decide),hsc]
 have:=lt.Qj hu p.length
 unfold iT
 rw[this]
def Ar (n:Int):List UInt8:=lt.qb 16 [48,120] n
def acI (n:Int):List Tok:=if n<0 then [(4,0,[45],0),(2,IntKind.wrap .i64 (n.natAbs:Int),[],0)] else [(2,n,[],0)]
def Vf:List Int->List UInt8
 |[]=>[]
 |n::L=>44::32::(Ar n++Vf L)
def Vg:List Int->List Tok
 |[]=>[]
 |n::L=>(4,0,[44],0)::(acI n++Vg L)
abbrev vL (n:Int):Prop := -9223372036854775808<=n/\n<9223372036854775808
theorem TM (n:Int):2<=(Ar n).length/\(Ar n).length<=70:=by
 unfold Ar lt.qb
 have:=lt.Ic (b:=16) 64 n.natAbs []
 simp only[List.length_append,List.length_nil] at this ⊢
 split<;>simp<;>omega
end
end Go.Proofs.YtpaddkkfefgkfaaGreatDoor.ps
