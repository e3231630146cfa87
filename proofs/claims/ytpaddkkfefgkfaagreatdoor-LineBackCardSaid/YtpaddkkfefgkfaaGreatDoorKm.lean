/- LineBack: the argument as it comes in. -/
import Derived.Test.YtpaddkkfefgkfaaGreatDoorKk
import Derived.Test.YtpaddkkfefgkfaaGreatDoorLyh
set_option linter.unusedVariables false
set_option linter.unusedSimpArgs false
namespace Go.Proofs.YtpaddkkfefgkfaaGreatDoor.ps.wr
open Go.Tv Go.Ev Go.Px Go.Pp Go.Proofs.YtpaddkkfefgkfaaGreatDoor.ex
set_option maxRecDepth 100000
noncomputable section
abbrev AB:Tv.Ty:=.pair .str (.pair (.int .i64) (.pair (.int .i64) (.pair (.pair (.int .i64) (.pair (.int .i64) (.sl fQ))) (.pair (.sl ot) (.pair (.sl bB) (.sl bB))))))
def stZ (z:AB.den):RS:=⟨0,z.1,z.2.1,z.2.2.1,z.2.2.2.1.1,z.2.2.2.1.2.1,z.2.2.2.1.2.2,z.2.2.2.2.1,z.2.2.2.2.2.1,z.2.2.2.2.2.2,0,0⟩
theorem afg (z:AB.den):Ea (stZ z)=flat AB z:=rfl
theorem WY {n:Int} (h:(Lit.int .i64 n).wf=true):lt.G3 n:=by
 unfold Lit.wf at h
 simp only[Bool.and_eq_true,decide_eq_true_eq] at h
 have e1:IntKind.i64.min = -9223372036854775808:=by decide
 have e2:IntKind.i64.max=9223372036854775807:=by decide
 rw[e1,e2] at h
 unfold lt.G3
 omega
theorem wB {α:Type} {l:List α} (h:l.length<=maxLen):K9 l=true:=bO h
theorem Ll {l:List Nd} (h:∀y∈l,uO bB y):iX l:=λy hy=>WY (h y hy).2.1
theorem afh {z:AB.den} (h:uO AB z):G0 (stZ z)=true/\iSt (stZ z):=by
 obtain ⟨_,_,_,⟨_,_,a1,a2⟩,⟨d1,d2⟩,⟨x1,x2⟩,t1,t2⟩:=h
 refine ⟨?_,⟨λr hr=>?_,λd hd=>?_,Ll x2,Ll t2⟩⟩
 .
  unfold G0 AK;simp only[Bool.and_eq_true,List.all_eq_true];refine ⟨⟨⟨⟨wB d1,λd hd=>?_⟩,wB a1,λr hr=>?_⟩,wB x1⟩,wB t1⟩
  .
   exact wB (d2 d hd).2.1
  exact wB (a2 r hr).2.2.2.1.1
 .
  obtain ⟨_,_,⟨_,_,q1,_,_⟩,⟨_,q2⟩,_⟩:=a2 r hr;exact ⟨WY q1,Ll q2⟩
 exact Ll (d2 d hd).2.2
theorem afi {z:AB.den} (h:uO AB z) (s:List UInt8):ag ex.X0 (cN Q9 W10 AV) bV 5 10 [.agg (flat AB z),.str s] aa.empty (λv _=>some v)=some (.bool true):=by
 rw[<-afg]
 exact aa9 (afh h).1 (afh h).2 s
end
end Go.Proofs.YtpaddkkfefgkfaaGreatDoor.ps.wr
