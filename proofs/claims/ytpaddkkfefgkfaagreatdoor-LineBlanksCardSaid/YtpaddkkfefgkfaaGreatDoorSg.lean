/- Lines of a name: what they come to. -/
import Derived.Test.YtpaddkkfefgkfaaGreatDoorGri
import Derived.Test.YtpaddkkfefgkfaaGreatDoorGrb
namespace Go.Proofs.YtpaddkkfefgkfaaGreatDoor.ps
open Go.Tv Go.Ev Go.Px Go.Pp Go.Proofs.YtpaddkkfefgkfaaGreatDoor.ex
set_option maxRecDepth 100000
noncomputable section
def Nq (t:List UInt8):List Tok:=[(1,0,t,0),(4,0,[58],(t.length:Int))]
def Sd (t:List UInt8):List Tok:=[(1,0,t,0),(1,0,pQ,(t.length:Int)+1),(2,5,[],(t.length:Int)+5)]
def G8 (t:List UInt8):List Tok:=[(1,0,dF,0),(1,0,t,6)]
theorem Se {n:Int} {l:List Tok} {s:RS} (h:s.a=l.length):uZ n l s=(true,s):=by unfold uZ;rw[if_pos h]
theorem Vr {n:Int} {l:List Tok} {s:RS} (h:s.a=l.length):gZ n l false s=(true,s):=by
 unfold gZ
 rw[if_pos h,if_neg (by simp)]
theorem Sf (n:Int) (t:List UInt8):cF n (Nq t) ei=if lt.fR t=true then (false,{ ei with e:=7,f:=0 }) else (true,{ ei with lab:=t,a:=2 }):=by
 have h1:eH (Nq t) 1=none:=rfl
 have h0:eH (Nq t) 0=some t:=rfl
 have h2:eH (Nq t) 2=none:=rfl
 have hs:aM (Nq t) 1 [58]=true:=rfl
 unfold cF
 rw[h1,if_neg (by simp),h0,hs,if_pos ⟨rfl,rfl⟩]
 unfold rY
 rw[h0]
 simp only
 split
 .
  rfl
 unfold fW
 simp only
 rw[h2,if_neg (by simp)]
 exact Vr rfl
theorem Sg (n:Int) (t:List UInt8):cF n (Sd t) ei=if lt.fR t=true then (false,{ ei with e:=7,f:=0 }) else (true,{ ei with lab:=t,a:=3,kind:=3,x:=[(1,5,[],0,0)] }):=by
 have h1:eH (Sd t) 1=some pQ:=rfl
 have h0:eH (Sd t) 0=some t:=rfl
 have hp:ai (Sd t) 2=([(1,5,[],0,0)],3,0,0):=by kernel_rfl
 unfold cF
 rw[h1,if_pos rfl]
 unfold Zu rY
 rw[h0]
 simp only
 split
 .
  rfl
 unfold qT HS
 simp only
 rw[hp,if_neg (by simp)]
 exact Se rfl
theorem Nr:lt.fR dF=true:=by
 unfold lt.fR
 rw[decide_eq_true (show dF∈lt.Ec by decide)]
 cases (rg.pR dF).2.2<;>cases (nm.dP dF).2<;>rfl
theorem ae4:lt.fR pQ=true:=by
 unfold lt.fR
 rw[decide_eq_true (show pQ∈lt.Ec by decide)]
 cases (rg.pR pQ).2.2<;>cases (nm.dP pQ).2<;>rfl
theorem Sh (n:Int) (t:List UInt8):cF n (G8 t) ei=if t=pQ then (false,{ ei with e:=7,f:=0 }) else if lt.fR t=true then (false,{ ei with kind:=6,e:=7,f:=6 }) else (true,{ ei with lab:=t,a:=2,kind:=6 }):=by
 have h1:eH (G8 t) 1=some t:=rfl
 have h0:eH (G8 t) 0=some dF:=rfl
 have hs:aM (G8 t) 1 [58]=false:=rfl
 unfold cF
 rw[h1]
 by_cases ht:t=pQ
 .
  rw[if_pos (by rw[ht]),if_pos ht]
  unfold Zu rY;rw[h0];simp only;rw[if_pos Nr];rfl
 rw[if_neg (λh=>ht (Option.some.inj h)),if_neg ht,hs,if_neg (by simp)]
 unfold fW
 have h00:eH (G8 t) ei.a=some dF:=rfl
 rw[h00,if_neg (by decide)]
 unfold gZ
 rw[h00,if_neg (show ¬ei.a=((G8 t).length:Int) by show ¬(0:Int)=2;omega)]
 simp only
 unfold Et
 rw[if_neg (show ¬((dF=uY\/dF=dF\/dF=qR)/\(false=true\/ei.lab≠[])) from λh=>by rcases h.2 with h|h;cases h;exact h rfl),if_neg (show ¬(dF=jb/\false=true) from λh=>by cases h.2)]
 unfold dh
 rw[if_neg (by decide),if_neg (by decide),if_neg (by decide),if_neg (by decide),if_pos rfl]
 unfold Es rY
 have h11:eH (G8 t) (ei.a+1)=some t:=rfl
 rw[h11]
 simp only
 split
 .
  rfl
 exact Se rfl
section
variable {t:List UInt8}
theorem EB {s:List UInt8} {l:List Tok} (h:lt.aG s=(l,0,0)):ck s=if (cF s.length l ei).1=true then ((cF s.length l ei).2,0,0) else (ei,(cF s.length l ei).2.e,(cF s.length l ei).2.f):=by
 unfold ck
 rw[h,if_neg (by simp)]
theorem ad4 (h:bf t=true):ck (t++[58])=if lt.fR t=true then (ei,7,0) else ({ ei with lab:=t,a:=2 },0,0):=by
 have hl:lt.aG (t++[58])=(Nq t,0,0):=lt.JV h
 rw[EB hl,Sf]
 by_cases hr:lt.fR t=true
 .
  rw[if_pos hr,if_pos hr];rfl
 rw[if_neg hr,if_neg hr];rfl
theorem ad5 (h:bf t=true):ck (t++lt.tK)=if lt.fR t=true then (ei,7,0) else ({ ei with lab:=t,a:=3,kind:=3,x:=[(1,5,[],0,0)] },0,0):=by
 have hl:lt.aG (t++lt.tK)=(Sd t,0,0):=lt.Sc h
 rw[EB hl,Sg]
 by_cases hr:lt.fR t=true
 .
  rw[if_pos hr,if_pos hr];rfl
 rw[if_neg hr,if_neg hr];rfl
theorem ad6 (h:bf t=true):ck (lt.mU++32::t)=if t=pQ then (ei,7,0) else if lt.fR t=true then (ei,7,6) else ({ ei with lab:=t,a:=2,kind:=6 },0,0):=by
 have hl:lt.aG (lt.mU++32::t)=(G8 t,0,0):=lt.JW h
 rw[EB hl,Sh]
 by_cases he:t=pQ
 .
  rw[if_pos he,if_pos he];rfl
 rw[if_neg he,if_neg he]
 by_cases hr:lt.fR t=true
 .
  rw[if_pos hr,if_pos hr];rfl
 rw[if_neg hr,if_neg hr];rfl
end
def lkx (t:List UInt8) (k:Int) (x:List Nd):RS:={ ei with lab:=t,kind:=k,x:=x }
theorem AL (s s':RS) (h:HT s=HT s'):JM s s'=true:=by
 unfold HT at h
 simp only[List.cons.injEq,AV.str.injEq,AV.int.injEq,true_and,and_true] at h
 obtain ⟨h1,h2,h3,h4,h5,h6,h7,h8,h9⟩:=h
 have i6:=eq_of_heq (AV.bQ.inj h6).2
 have i7:=eq_of_heq (AV.bQ.inj h7).2
 have i8:=eq_of_heq (AV.bQ.inj h8).2
 have i9:=eq_of_heq (AV.bQ.inj h9).2
 unfold JM
 rw[decide_eq_true h1,decide_eq_true h2,decide_eq_true h3,decide_eq_true h4,decide_eq_true h5,kD.2 i6,kD.2 i7,decide_eq_true (show s.x=s'.x from i8),decide_eq_true (show s.times=s'.times from i9)]
 rfl
theorem Z7:JM ei ei=true:=AL _ _ rfl
end
end Go.Proofs.YtpaddkkfefgkfaaGreatDoor.ps
