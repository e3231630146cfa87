/- Lines of a name: what they come to. -/
import Derived.Test.YtpaddkkfefgkfaaGreatDoorGri
import Derived.Test.YtpaddkkfefgkfaaGreatDoorGrb
set_option linter.unusedVariables false
set_option linter.unusedSimpArgs false
namespace Go.Proofs.YtpaddkkfefgkfaaGreatDoor.ps
open Go.Tv Go.Ev Go.Px Go.Pp Go.Proofs.YtpaddkkfefgkfaaGreatDoor.ex
set_option maxRecDepth 100000
noncomputable section
def PU (t:List UInt8):List Tok:=[(1,0,t,0),(4,0,[58],(t.length:Int))]
def Uz (t:List UInt8):List Tok:=[(1,0,t,0),(1,0,qy,(t.length:Int)+1),(2,5,[],(t.length:Int)+5)]
def I5 (t:List UInt8):List Tok:=[(1,0,ee,0),(1,0,t,6)]
theorem UA {n:Int} {l:List Tok} {s:RS} (h:s.a=l.length):wB n l s=(true,s):=by unfold wB;rw[if_pos h]
theorem Yl {n:Int} {l:List Tok} {s:RS} (h:s.a=l.length):iH n l false s=(true,s):=by
 unfold iH
 rw[if_pos h,if_neg (by simp)]
theorem UB (n:Int) (t:List UInt8):cZ n (PU t) eJ=if lt.gu t=true then (false,{ eJ with e:=7,f:=0 }) else (true,{ eJ with lab:=t,a:=2 }):=by
 have h1:eV (PU t) 1=none:=rfl
 have h0:eV (PU t) 0=some t:=rfl
 have h2:eV (PU t) 2=none:=rfl
 have hs:aT (PU t) 1 [58]=true:=rfl
 unfold cZ
 rw[h1,if_neg (by simp),h0,hs,if_pos ⟨rfl,rfl⟩]
 unfold tq
 rw[h0]
 simp only
 split
 .
  rfl
 unfold gz
 simp only
 rw[h2,if_neg (by simp)]
 exact Yl rfl
theorem UC (n:Int) (t:List UInt8):cZ n (Uz t) eJ=if lt.gu t=true then (false,{ eJ with e:=7,f:=0 }) else (true,{ eJ with lab:=t,a:=3,kind:=3,x:=[(1,5,[],0,0)] }):=by
 have h1:eV (Uz t) 1=some qy:=rfl
 have h0:eV (Uz t) 0=some t:=rfl
 have hp:ai (Uz t) 2=([(1,5,[],0,0)],3,0,0):=by kernel_rfl
 unfold cZ
 rw[h1,if_pos rfl]
 unfold ac1 tq
 rw[h0]
 simp only
 split
 .
  rfl
 unfold rW JP
 simp only
 rw[hp,if_neg (by simp)]
 exact UA rfl
theorem PV:lt.gu ee=true:=by
 unfold lt.gu
 rw[decide_eq_true (show ee∈lt.FN by decide)]
 cases (rg.pR ee).2.2<;>cases (nm.di ee).2<;>rfl
theorem ajC:lt.gu qy=true:=by
 unfold lt.gu
 rw[decide_eq_true (show qy∈lt.FN by decide)]
 cases (rg.pR qy).2.2<;>cases (nm.di qy).2<;>rfl
theorem UD (n:Int) (t:List UInt8):cZ n (I5 t) eJ=if t=qy then (false,{ eJ with e:=7,f:=0 }) else if lt.gu t=true then (false,{ eJ with kind:=6,e:=7,f:=6 }) else (true,{ eJ with lab:=t,a:=2,kind:=6 }):=by
 have h1:eV (I5 t) 1=some t:=rfl
 have h0:eV (I5 t) 0=some ee:=rfl
 have hs:aT (I5 t) 1 [58]=false:=rfl
 unfold cZ
 rw[h1]
 by_cases ht:t=qy
 .
  rw[if_pos (by rw[ht]),if_pos ht]
  unfold ac1 tq;rw[h0];simp only;rw[if_pos PV];rfl
 rw[if_neg (λh=>ht (Option.some.inj h)),if_neg ht,hs,if_neg (by simp)]
 unfold gz
 have h00:eV (I5 t) eJ.a=some ee:=rfl
 rw[h00,if_neg (by decide)]
 unfold iH
 rw[h00,if_neg (show ¬eJ.a=((I5 t).length:Int) by show ¬(0:Int)=2;omega)]
 simp only
 unfold F9
 rw[if_neg (show ¬((ee=wA\/ee=ee\/ee=rV)/\(false=true\/eJ.lab≠[])) from λh=>by rcases h.2 with h|h;cases h;exact h rfl),if_neg (show ¬(ee=jr/\false=true) from λh=>by cases h.2)]
 unfold dU
 rw[if_neg (by decide),if_neg (by decide),if_neg (by decide),if_neg (by decide),if_pos rfl]
 unfold F8 tq
 have h11:eV (I5 t) (eJ.a+1)=some t:=rfl
 rw[h11]
 simp only
 split
 .
  rfl
 exact UA rfl
section
variable {t:List UInt8}
theorem Gg {s:List UInt8} {l:List Tok} (h:lt.aG s=(l,0,0)):cH s=if (cZ s.length l eJ).1=true then ((cZ s.length l eJ).2,0,0) else (eJ,(cZ s.length l eJ).2.e,(cZ s.length l eJ).2.f):=by
 unfold cH
 rw[h,if_neg (by simp)]
theorem ah8 (h:ax t=true):cH (t++[58])=if lt.gu t=true then (eJ,7,0) else ({ eJ with lab:=t,a:=2 },0,0):=by
 have hl:lt.aG (t++[58])=(PU t,0,0):=lt.LK h
 rw[Gg hl,UB]
 by_cases hr:lt.gu t=true
 .
  rw[if_pos hr,if_pos hr];rfl
 rw[if_neg hr,if_neg hr];rfl
theorem ah9 (h:ax t=true):cH (t++lt.uQ)=if lt.gu t=true then (eJ,7,0) else ({ eJ with lab:=t,a:=3,kind:=3,x:=[(1,5,[],0,0)] },0,0):=by
 have hl:lt.aG (t++lt.uQ)=(Uz t,0,0):=lt.Uy h
 rw[Gg hl,UC]
 by_cases hr:lt.gu t=true
 .
  rw[if_pos hr,if_pos hr];rfl
 rw[if_neg hr,if_neg hr];rfl
theorem aia (h:ax t=true):cH (lt.nP++32::t)=if t=qy then (eJ,7,0) else if lt.gu t=true then (eJ,7,6) else ({ eJ with lab:=t,a:=2,kind:=6 },0,0):=by
 have hl:lt.aG (lt.nP++32::t)=(I5 t,0,0):=lt.LL h
 rw[Gg hl,UD]
 by_cases he:t=qy
 .
  rw[if_pos he,if_pos he];rfl
 rw[if_neg he,if_neg he]
 by_cases hr:lt.gu t=true
 .
  rw[if_pos hr,if_pos hr];rfl
 rw[if_neg hr,if_neg hr];rfl
end
def lkx (t:List UInt8) (k:Int) (x:List Nd):RS:={ eJ with lab:=t,kind:=k,x:=x }
theorem Ce (s s':RS) (h:JQ s=JQ s'):LC s s'=true:=by
 unfold JQ at h
 simp only[List.cons.injEq,AV.str.injEq,AV.int.injEq,true_and,and_true] at h
 obtain ⟨h1,h2,h3,h4,h5,h6,h7,h8,h9⟩:=h
 have i6:=eq_of_heq (AV.bF.inj h6).2
 have i7:=eq_of_heq (AV.bF.inj h7).2
 have i8:=eq_of_heq (AV.bF.inj h8).2
 have i9:=eq_of_heq (AV.bF.inj h9).2
 unfold LC
 rw[decide_eq_true h1,decide_eq_true h2,decide_eq_true h3,decide_eq_true h4,decide_eq_true h5,kq.2 i6,kq.2 i7,decide_eq_true (show s.x=s'.x from i8),decide_eq_true (show s.times=s'.times from i9)]
 rfl
theorem adE:LC eJ eJ=true:=Ce _ _ rfl
end
end Go.Proofs.YtpaddkkfefgkfaaGreatDoor.ps
