/- Lines: reading one, as it runs. Lines: the contract of reading one. Lines: the contract of Read. -/
import Derived.Test.YtpaddkkfefgkfaaGreatDoorGrf
set_option linter.unusedVariables false
set_option linter.unusedSimpArgs false

namespace Go.Proofs.YtpaddkkfefgkfaaGreatDoor.ps
open Go.Tv Go.Ev Go.Px Go.Pp Go.Proofs.YtpaddkkfefgkfaaGreatDoor.ex
set_option maxRecDepth 100000
noncomputable section
def p3:List Bool:=[true,true,true]
def p4:List Bool:=[true,true,true,true]
def p8:List Bool:=[true,true,true,true,true,true,true,true]
def p9:List Bool:=[true,true,true,true,true,true,true,true,true]
def acf:bG:=⟨nS (cG [0] p3) (nS (cG [0,3] p4) (nS (cG [0,3,4] p8) (cG [0,4] p9))),.none,[]⟩
def fr3:ck:=fY 143 [(0,.ptr 0 0)]
def fr4 (b:Bool):ck:=fY 143 [(0,.ptr 0 0),(3,.bool b)]
def fr8 (b:Bool) (w:List UInt8):ck:=fY 143 [(0,.ptr 0 0),(3,.bool b),(4,.str w)]
def fr9 (w:List UInt8):ck:=fY 143 [(0,.ptr 0 0),(4,.str w)]
abbrev cL:aU (List bI×List Nat):=cN P3 ND _
section
variable (n:Int) (l:List Tok)
def Ya (s:RS) (nd nx nt:Nat) (i:Int) (k:List UInt8->bD):bD :=
 pick2 (ltI i l.length) (HZ l i λy=>pick2 (!eqI y.1 1) (ox n l s nd nx nt 4 i) (HZ l i λy=>pick2 (lt.pF y.2.2.1) (ox n l s nd nx nt 7 i) (k y.2.2.1))) (ox n l s nd nx nt 4 i)
def FG (s:RS) (nd nx nt:Nat):bD:=pick2 (eqI s.a l.length) (U3 true n l s nd nx nt) (ox n l s nd nx nt 4 s.a)
def PL (kind:Int) (s:RS) (nt:Nat):bD:=exT n l { s with kind:=kind } 0 0 nt λx e=>FG n l { s with kind:=kind,x:=x,a:=e } 0 x.length nt
def st0 (a:Int) (lab:List UInt8) (times:List Nd):RS:=⟨a,lab,0,0,0,0,[],[],[],times,0,0⟩
def dtT (s:RS):bD:=pick2 (((inL l s.a&&(!ltI (vG l s.a).length 1&&Nat.ble (vG l s.a).length 1000000))&&true)&&true) (sj n l (PB n l s)) none
def dcT (s:RS):bD:=pick2 ((inL l s.a&&true)&&true) (sj n l (XX n l s)) none
def rsT (s:RS) (nt:Nat):bD:=HZ l s.a λy=>pick2 (!ltI y.2.2.1.length 1&&Nat.ble y.2.2.1.length 1000000) (PL n l 8 { s with sz:=zu y.2.2.1,a:=IntKind.wrap .i64 (s.a+1) } nt) none
def alT (kind:Int) (s:RS) (nt:Nat):bD:=PL n l kind { s with a:=IntKind.wrap .i64 (s.a+1) } nt
def scT (s:RS) (nt:Nat):bD:=Ya n l { s with kind:=6 } 0 0 nt (IntKind.wrap .i64 (s.a+1)) λt=>FG n l { s with kind:=6,lab:=t,a:=IntKind.wrap .i64 (s.a+2) } 0 0 nt
def enT (s:RS) (nt:Nat):bD:=FG n l { s with kind:=7,a:=IntKind.wrap .i64 (s.a+1) } 0 0 nt
def afU (s:RS) (nt:Nat):bD:=pick2 (Nat.ble l.length 200000) (pick2 (!eqI (aF l s.a).2.2.2.1 0) (ox n l s 0 0 nt (aF l s.a).2.2.2.1 (aF l s.a).2.2.2.2)
 (U3 true n l { s with kind:=1,op:=(aF l s.a).1,hint:=(aF l s.a).2.1,args:=(aF l s.a).2.2.1 } 0 0 nt)) none
def wsT (w:List UInt8) (s:RS) (nt:Nat):bD :=
 [(
  [100,98],dtT n l s),([100,119],dtT n l s),([100,100],dtT n l s),([100,113],dtT n l s),([114,101,115,98],rsT n l s nt),([114,101,115,119],rsT n l s nt),([114,101,115,100],rsT n l s nt),([114,101,115,113],rsT n l s nt),
  (Dx,alT n l 4 s nt),(PJ,alT n l 5 s nt),(vH,scT n l s nt),(JK,enT n l s nt),(ab7,dcT n l s)].foldr (λq r=>pick2 (decide (w=q.1)) q.2 r) (pick2 (nm.dz w).2 (afU n l s nt) (ox n l s 0 0 nt 4 s.a))
end
def j9 (n:Int) (l:List Tok) (r:Nat) (w:List UInt8) (s:RS) (nt:Nat):bD:=codeFrom X0 cL acf r 65 p9 Tb (fr9 w) (mRd n l s 0 0 nt)
def F4 (n:Int) (l:List Tok) (s:RS) (nt:Nat):bD:=ox n l s 0 0 nt 4 s.a
def ajS (n:Int) (l:List Tok) (w:List UInt8) (rq:Bool) (s:RS) (nt:Nat) (K:bD):bD :=
 (λb1 al:bD=>pick2 (decide (w=PJ)) (pick2 (decide (w=PJ)) b1 al) (pick2 (decide (w=vH)) (pick2 (decide (w=vH)) b1 al) (pick2 (decide (w=JK)) b1 al)))
  (pick2 rq (F4 n l s nt) (pick2 (!decide (s.lab=[])) (F4 n l s nt) K)) (pick2 (decide (w=Dx)) (pick2 rq (F4 n l s nt) K) K)
def Jj (n:Int) (l:List Tok) (rq:Bool) (s:RS) (nt:Nat) (K:List UInt8->bD):bD :=
 pick2 (eqI s.a l.length) (pick2 (!rq) (U3 true n l s 0 0 nt) (F4 n l s nt))
  (pick2 (ltI s.a l.length) (HZ l s.a λy=>pick2 (!eqI y.1 1) (F4 n l s nt) (HZ l s.a λz=>K z.2.2.1)) (F4 n l s nt))
def oq (n:Int) (l:List Tok) (K:RS->bD):bD :=
 (λno:bD=>pick2 (ltI 1 l.length) (HZ l 1 λy=>pick2 (eqI y.1 1) (HZ l 1 λy=>pick2 (decide (y.2.2.1=X5)) (Ya n l xy 0 0 0 0 λt=>PL n l 3 { xy with lab:=t,a:=2 } 0) no) no) no)
  (pick2 (ltI 0 l.length) (HZ l 0 λy=>pick2 (eqI y.1 1) (pick2 (ltI 1 l.length) (HZ l 1 λy=>pick2 (eqI y.1 4) (HZ l 1 λy=>pick2 (decide (y.2.2.1=[58])) (Ya n l xy 0 0 0 0 λt=>K (st0 2 t [])) (K xy)) (K xy)) (K xy)) (K xy)) (K xy))
end
end Go.Proofs.YtpaddkkfefgkfaaGreatDoor.ps

namespace Go.Proofs.YtpaddkkfefgkfaaGreatDoor.ps
open Go.Tv Go.Ev Go.Px Go.Pp Go.Proofs.YtpaddkkfefgkfaaGreatDoor.ex
set_option maxRecDepth 100000
noncomputable section
section
variable {n:Int} {l:List Tok}
end
def kb (n:Int) (l:List Tok) (r:Nat) (p:List Bool) (f:ck) (H:aa):bD:=codeFrom X0 cL acf r 65 p Tb f H
section
variable {n:Int} {l:List Tok} {r:Nat}
end
def isZ (s:RS):Bool:=decide (s.a=0)&&decide (s.lab=[])&&decide (s.kind=0)&&decide (s.sz=0)&&decide (s.op=0)&&decide (s.hint=0)&&s.times.isEmpty&&decide (s.e=0)&&decide (s.f=0)
def FLn:FRd:=λn l s=>some (Nat.ble l.length 200000&&isZ s,uj n l xy)
def NL:List jo:=(65,cRd FLn)::ND
end
end Go.Proofs.YtpaddkkfefgkfaaGreatDoor.ps

namespace Go.Proofs.YtpaddkkfefgkfaaGreatDoor.ps
open Go.Tv Go.Ev Go.Px Go.Pp Go.Proofs.YtpaddkkfefgkfaaGreatDoor.ex
set_option maxRecDepth 100000
noncomputable section
def stL (s:RS):AV:=.agg [.str s.lab,.int .i64 s.kind,.int .i64 s.sz,.int .i64 s.op,.int .i64 s.hint,.bA jX s.args,.bA Dv s.data,.bA bW s.x,.bA bW s.times]
def rdL (r:RS×Int×Int):List AV:=[stL r.1,.agg [.int .i64 r.2.1,.int .i64 r.2.2]]
def sgS:List (List (Option Tv.Ty)):=[[none,none,none,none,none,some jX,some Dv,some bW,some bW],[none,none]]
def rdT (s:List UInt8):kC :=
 pick2 (!eqI (lt.bM s).2.1 0) (some (rdL (xy,(lt.bM s).2.1,(lt.bM s).2.2)))
  (pick2 (((Nat.ble (lt.bM s).1.length 200000&&true)&&true)&&true)
   (pick2 (!(uj s.length (lt.bM s).1 xy).1) (some (rdL (xy,(uj s.length (lt.bM s).1 xy).2.e,(uj s.length (lt.bM s).1 xy).2.f))) (some (rdL ((uj s.length (lt.bM s).1 xy).2,0,0)))) none)
theorem zy (s:List UInt8):∀(m:Nat) (r:List UInt8),(lt.dH s m r).1.length<=m
 |0,_=>by simp[lt.dH]
 |m+1,[]=>by simp[lt.dH]
 |
  m+1,c::r=>by
  unfold lt.dH;split
  .
   have:=zy s m r;omega
  split
  .
   simp
  split
  .
   have:=zy s m (s.drop (lt.cV s c (s.length-(r.length+1))).2.1.toNat);simp only[List.length_cons];omega
  simp
theorem PM (s:List UInt8):(lt.bM s).1.length<=1000:=by
 unfold lt.bM
 split
 .
  simp
 rename_i h
 split
 .
  have:=zy s s.length s;show (lt.dH s s.length s).1.length<=1000;omega
 simp
def fRd (args:List AV):Option (Bool×List AV) :=
 match args with
 |[.str s]=>some (true,rdL (qa s))
 |_=>none
def NR:List jo:=(29,⟨none,[none],gV fRd⟩)::NL
end
end Go.Proofs.YtpaddkkfefgkfaaGreatDoor.ps
