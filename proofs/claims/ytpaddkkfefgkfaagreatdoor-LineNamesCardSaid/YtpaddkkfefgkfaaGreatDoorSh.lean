/- LineNames: the law's run, and that it answers true. -/
import Derived.Test.YtpaddkkfefgkfaaGreatDoorSg
set_option linter.unusedVariables false
set_option linter.unusedSimpArgs false
namespace Go.Proofs.YtpaddkkfefgkfaaGreatDoor.ps
open Go.Tv Go.Ev Go.Px Go.Pp Go.Proofs.YtpaddkkfefgkfaaGreatDoor.ex
set_option maxRecDepth 100000
noncomputable section
abbrev ah:=Option AV
def jE:ah:=some (.bool false)
def s6:List Bool:=[true,true,true,false,true,false]
def abP:bI:=⟨dP [7,8,9] s6,.none,[]⟩
def jNm (a b c:List UInt8) (r m:Nat) (i:Int):ah:=dQ ex.X0 (cN Q3 NS4 _) abP r 3 s6 (λv _=>some v) m (iB 91 [(7,.bool true),(8,.own 0 3),(9,.int .i64 i)]) (jF [.list 9 .str [a,b,c] 0 false false])
def nT (t:List UInt8) (X:ah):ah:=pick2 (Nat.ble (t.length+1) 9223372036854775807) X none
def aow (t:List UInt8) (X:ah):ah:=pick2 (Nat.ble (t.length+6) 9223372036854775807) X none
def aox (t:List UInt8) (X:ah):ah:=pick2 (Nat.ble (6+t.length) 9223372036854775807) X none
def t58 (t:List UInt8):List UInt8:=t++[58]
def rI (t:List UInt8):List UInt8:=t++[32,101,113,117,32,53]
def rN (t:List UInt8):List UInt8:=[115,116,114,117,99,32]++t
def unT (t:List UInt8) (K:ah):ah:=pick2 (!lt.gu t) (nT t (pick2 (!yV (t58 t) (lkx t 0 [])) jE (aow t (pick2 (!yV (rI t) (lkx t 3 [(1,5,[],0,0)])) jE (aox t (pick2 (!yV (rN t) (lkx t 6 [])) jE K)))))) K
def mJ (t:List UInt8) (w:Int) (K:ah):ah:=pick2 (lt.gu t) (nT t (pick2 (!Ut (t58 t) 7 0) jE (aow t (pick2 (!Ut (rI t) 7 0) jE (aox t (pick2 (!Ut (rN t) 7 w) jE (unT t K))))))) (unT t K)
def pE (t:List UInt8) (i:Int) (K:ah):ah:=pick2 (!ax t) K ((λbody:Int->ah=>pick2 (decide (t=qy)) (body 0) (body 6)) λw=>pick2 (ltI i 2) (pick2 (!lt.gu t) jE (mJ t w K)) (mJ t w K))
theorem SL (a b c:List UInt8) (r m:Nat) (i:Int):jNm a b c r (m+1) i=pick2 (ltI i 3) (Option.rec (motive:=λ_=>ah) none (λt=>pE t i (jNm a b c r m (IntKind.wrap .i64 (i+1)))) (aO [a,b,c] i)) (some (.bool true)):=by kernel_rfl
theorem Xm (op c n:Int) (s:List UInt8) (r:Nat):ag ex.X0 (cN Q3 NS4 _) abP r 3 [.int .i64 op,.agg [.int .i64 c,.int .i64 n],.str s] aa.empty (λv _=>some v)=jNm (nm.bT op) (bu c n) s r r 0:=by kernel_rfl
theorem iq {t:List UInt8} (h:ax t=true):t.length<=60:=by
 obtain ⟨d,r,rfl,h1,_⟩:=lt.qd h
 simp;omega
theorem fV {t:List UInt8} {i:Int} (hr:i<2->ax t=true->lt.gu t=true) (K:ah):pE t i K=K:=by
 unfold pE
 cases hn:ax t with
 |false=>rfl
 |
  true =>
  have hl:=iq hn;have e1:∀X,nT t X=X:=λX=>by unfold nT;rw[cj (by omega)]
  have e2:∀X,aow t X=X:=λX=>by unfold aow;rw[cj (by omega)]
  have e3:∀X,aox t X=X:=λX=>by unfold aox;rw[cj (by omega)]
  have r1:cH (t58 t)=if lt.gu t=true then (eJ,7,0) else ({ eJ with lab:=t,a:=2 },0,0):=ah8 hn
  have r2:cH (rI t)=if lt.gu t=true then (eJ,7,0) else ({ eJ with lab:=t,a:=3,kind:=3,x:=[(1,5,[],0,0)] },0,0):=ah9 hn
  have r3:cH (rN t)=if t=qy then (eJ,7,0) else if lt.gu t=true then (eJ,7,6) else ({ eJ with lab:=t,a:=2,kind:=6 },0,0):=aia hn
  rw[show ∀X:ah,pick2 (!true) K X=X from λ_=>rfl]
  simp only;cases hres:lt.gu t with
  |
   true =>
   rw[hres,if_pos rfl] at r1 r2;have f1:Ut (t58 t) 7 0=true:=by unfold Ut;rw[r1,adE];rfl
   have f2:Ut (rI t) 7 0=true:=by unfold Ut;rw[r2,adE];rfl
   have hun:unT t K=K:=by unfold unT;rw[hres];rfl
   have hh:∀w,Ut (rN t) 7 w=true->mJ t w K=K:=λw hw=>by
    unfold mJ;rw[hres,e1,e2,e3,f1,f2,hw,hun];rfl
   by_cases he:t=qy
   .
    rw[if_pos he] at r3;have hw:=hh 0 (by unfold Ut;rw[r3,adE];rfl)
    rw[decide_eq_true he,hw];show pick2 (ltI i 2) K K=K;cases ltI i 2<;>rfl
   rw[if_neg he,hres,if_pos rfl] at r3;have hw:=hh 6 (by unfold Ut;rw[r3,adE];rfl)
   rw[decide_eq_false he,hw];show pick2 (ltI i 2) K K=K;cases ltI i 2<;>rfl
  |
   false =>
   have hi:¬i<2:=λh=>by rw[hr h hn] at hres;cases hres
   have he:t≠qy:=λh=>by rw[h,ajC] at hres;cases hres
   rw[hres,if_neg (by simp)] at r1 r2
   rw[if_neg he,hres,if_neg (by simp)] at r3
   have f1:yV (t58 t) (lkx t 0 [])=true:=by unfold yV;rw[r1];exact Ce _ _ rfl
   have f2:yV (rI t) (lkx t 3 [(1,5,[],0,0)])=true:=by unfold yV;rw[r2];exact Ce _ _ rfl
   have f3:yV (rN t) (lkx t 6 [])=true:=by unfold yV;rw[r3];exact Ce _ _ rfl
   have hun:unT t K=K:=by unfold unT;rw[hres,e1,e2,e3,f1,f2,f3];rfl
   have hh:∀w,mJ t w K=K:=λw=>by unfold mJ;rw[hres,hun]
   simp only[hh];rw[decide_eq_false he,cn (by omega)]
theorem ag0 (op c n:Int) (s:List UInt8):ag ex.X0 (cN Q3 NS4 _) abP 5 3 [.int .i64 op,.agg [.int .i64 c,.int .i64 n],.str s] aa.empty (λv _=>some v)=some (.bool true):=by
 rw[Xm,SL,SL,SL,SL]
 show pE (nm.bT op) 0 (pE (bu c n) 1 (pE s 2 (some (.bool true))))=_
 rw[fV (λ_ h=>al4 h),fV (λ_ h=>ajA h),fV (λh=>by omega)]
end
end Go.Proofs.YtpaddkkfefgkfaaGreatDoor.ps
