/- LineBack: the law's run. -/
import Derived.Test.YtpaddkkfefgkfaaGreatDoorKl
import Derived.Test.YtpaddkkfefgkfaaGreatDoorGri
set_option linter.unusedVariables false
set_option linter.unusedSimpArgs false
namespace Go.Proofs.YtpaddkkfefgkfaaGreatDoor.ps.wr
open Go.Tv Go.Ev Go.Px Go.Pp Go.Proofs.YtpaddkkfefgkfaaGreatDoor.ex
set_option maxRecDepth 100000
noncomputable section
def Q9:List nY:=(12,[],gYs)::KL
theorem afd:cr ex.X0 cg Q9:=.cons Z8 R6
theorem aa8:bS ex.X0 cg W10:=.cons Nb (.cons aaX ZW)
def yW:Option AV:=some (.bool true)
def nW:Option AV:=some (.bool false)
def sO (x:RS):RS:=⟨0,x.lab,x.kind,x.sz,x.op,x.hint,x.args,x.data,x.x,x.times,0,0⟩
def l23 (e:Int):Option AV:=pick2 (eqI e 2) yW (some (.bool (eqI e 3)))
def yT (Y:RS) (e at':Int) (s:List UInt8):Option AV :=
 pick2 (!eqI e 0) (pick2 (Ec Y) (pick2 (Eb Y iF) (pick2 (!ltI at' 0) (some (.bool (!ltI s.length at'))) nW) nW) none)
  (pick2 (G1 Y) (pick2 (eqI (bX Y).2 0) (pick2 (xm (bX Y).1 Y) yW (l23 (bX Y).2)) (l23 (bX Y).2)) none)
def mW (X:RS) (R:Option AV):Option AV:=pick2 (!eqI (bX X).2 0) (pick2 (!decide ((bX X).1=[])) nW R) R
def lbT (X Y:RS) (e at':Int) (s:List UInt8):Option AV :=
 pick2 (G0 X) (pick2 (xu X) yW (pick2 (ltI 1100 s.length) yW (pick2 (G1 X) (pick2 (eqI (bX X).2 0) (pick2 (!xm (bX X).1 X) nW (mW X (yT Y e at' s))) (mW X (yT Y e at' s))) none))) none
theorem Sr (x:RS) (s:List UInt8):ag ex.X0 (cN Q9 W10 AV) bV 5 10 [.agg (Ea x),.str s] aa.empty (λv _=>some v)=lbT (sO x) (sO (bH s).1) (bH s).2.1 (bH s).2.2 s:=by kernel_rfl
theorem WW {x:RS} (h:gSt x):gSt (sO x):=⟨h.lab,h.args,h.data,h.x,h.times,h.n,h.k⟩
theorem WX (x:RS):Ec (sO x)=Ec x:=rfl
theorem afe {x:RS} (h:(bX x).2≠0):l23 (bX x).2=yW:=by
 unfold l23
 rcases Nj x with e|e|e
 .
  exact absurd e h
 .
  rw[e];rfl
 rw[e];rfl
theorem aiu {s:List UInt8}:yT (sO (bH s).1) (bH s).2.1 (bH s).2.2 s=yW:=by
 have hg:=WW (Sq s)
 obtain ⟨_,f0,f1⟩:=Lj s
 have hok:Ec (sO (bH s).1)=true:=(WX _).trans (Ef s)
 unfold yT
 rw[aG]
 by_cases he:(bH s).2.1=0
 .
  rw[if_pos he,WT hg hok,aB];show (if (bX (sO (bH s).1)).2=0 then _ else _)=_;by_cases hw:(bX (sO (bH s).1)).2=0
  .
   rw[if_pos hw,Az hw]
  rw[if_neg hw,afe hw]
 rw[if_neg he,hok]
 have hz:sO (bH s).1=iF:=by rw[aa7 he];rfl
 rw[hz]
 show pick2 (Eb iF iF) (pick2 (!ltI (bH s).2.2 0) (some (AV.bool (!ltI s.length (bH s).2.2))) nW) nW=_
 rw[cF f0,cF f1,show Eb iF iF=true from by unfold Eb;simp[fe]]
 rfl
theorem aa9 {x:RS} (hl:G0 x=true) (hi:iSt x) (s:List UInt8):ag ex.X0 (cN Q9 W10 AV) bV 5 10 [.agg (Ea x),.str s] aa.empty (λv _=>some v)=some (.bool true):=by
 rw[Sr]
 have h1:G0 (sO x)=true:=hl
 unfold lbT
 rw[h1,aiu]
 show pick2 (xu x) yW _=_
 cases hs:xu x with
 |true=>rfl
 |
  false =>
  obtain ⟨hg,ho⟩:=Sd hs hi;have hw:G1 (sO x)=true:=WT (WW hg) ((WX _).trans ho);rw[hw];cases ltI 1100 s.length with
  |true=>rfl
  |
   false =>
   show pick2 (eqI (bX (sO x)).2 0) (pick2 (!xm (bX (sO x)).1 (sO x)) nW (mW (sO x) yW)) (mW (sO x) yW)=some (.bool true);rw[aB]
   have hm:mW (sO x) yW=yW:=by
    unfold mW;rw[aG];by_cases h0:(bX (sO x)).2=0
    .
     rw[if_pos h0]
    rw[if_neg h0,Se h0];rfl
   rw[hm];by_cases h0:(bX (sO x)).2=0
   .
    rw[if_pos h0,Az h0];rfl
   rw[if_neg h0];rfl
end
end Go.Proofs.YtpaddkkfefgkfaaGreatDoor.ps.wr
