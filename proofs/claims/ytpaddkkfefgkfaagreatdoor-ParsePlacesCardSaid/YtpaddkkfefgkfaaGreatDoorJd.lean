/- ParsePlaces: that the law answers true. -/
import Derived.Test.YtpaddkkfefgkfaaGreatDoorJc
set_option linter.unusedVariables false
set_option linter.unusedSimpArgs false
namespace Go.Proofs.YtpaddkkfefgkfaaGreatDoor.ps.iq
open Go.Tv Go.Ev Go.Px Go.Pp Go.Proofs.YtpaddkkfefgkfaaGreatDoor.ex
set_option maxRecDepth 100000
noncomputable section
def QW (n:Int):UInt8:=if n<0 then 45 else 43
def qe (c x:Int):List (UInt8×Tm):=if c=0/\x=0 then [] else [(43,.rg c x)]
def Au (c x sc:Int):List (UInt8×Tm):=if c=0/\x=0 then [] else [(43,.ix c x sc)]
def lF (m:Mm):List (UInt8×Tm):=qe m.1.1 m.1.2++Au m.2.1.1 m.2.1.2 m.2.2.1
def qf (n:Int):UInt8×Tm:=(QW n,.nu n.natAbs)
theorem gb (a b:List (UInt8×Tm)):cX (a++b)=cX a++cX b:=by
 induction a with
 |nil=>rfl
 |
  cons q a ih =>
  show [32,q.1,32]++q.2.txt++cX (a++b)=([32,q.1,32]++q.2.txt++cX a)++cX b;rw[ih];simp
theorem qg (n:Int):cX [qf n]=eZ n:=by
 show [32,QW n,32]++iT n.natAbs++[]=_
 rw[List.append_nil];rfl
theorem uq (a b:List (UInt8×Tm)) (s:TS):dS s (a++b)=match dS s a with
 |some s'=>dS s' b
 |none=>none:=by
 induction a generalizing s with
 |nil=>rfl
 |
  cons q a ih =>
  show (match uo q.1 s q.2 with
   |some s'=>dS s' (a++b)
   |none=>none)=match (match uo q.1 s q.2 with
   |some s'=>dS s' a
   |none=>none) with
   |some s'=>dS s' b
   |none=>none
  cases uo q.1 s q.2 with
  |none=>rfl
  |some s1=>exact ih s1
theorem kI {m:Mm} (h:vI m=0):((m.1.1=0/\m.1.2=0)\/bw m.1.1 m.1.2=true)/\((m.2.1.1=0/\m.2.1.2=0/\m.2.2.1=0)\/(¬(m.2.1.1=0/\m.2.1.2=0)/\bw m.2.1.1 m.2.1.2=true/\m.2.1.1≠8/\cO m.2.2.1=true)) /\ -2147483648<=m.2.2.2.1/\m.2.2.2.1<=2147483647:=by
 have hw:∀c x:Int,lC c x=true->bw c x=true/\c≠8/\¬(c=0/\x=0):=λc x hx=>by
  have hx:=of_decide_eq_true hx;exact ⟨decide_eq_true (.inr (.inr ⟨by omega,by omega,by omega⟩)),by omega,by omega⟩
 have hz:∀c x:Int,l9 c x=true↔(c=0/\x=0):=λc x=>by unfold l9;simp
 unfold vI ud at h
 split at h
 .
  cases h
 rename_i h1
 split at h
 .
  cases h
 rename_i h2
 split at h
 .
  cases h
 rename_i h3
 have hb:(m.1.1=0/\m.1.2=0)\/bw m.1.1 m.1.2=true:=by
  cases hzb:l9 m.1.1 m.1.2 with
  |true=>exact .inl ((hz _ _).1 hzb)
  |
   false =>
   right
   cases hr:Ao m.1.1 m.1.2 with
   |
    true =>
    unfold Ao at hr;simp only[Bool.and_eq_true,decide_eq_true_eq] at hr;exact decide_eq_true (.inr (.inl ⟨hr.1,by omega,by omega⟩))
   |
    false =>
    cases hwb:lC m.1.1 m.1.2 with
    |true=>exact (hw _ _ hwb).1
    |false=>exact absurd ⟨hzb,hr,hwb⟩ h3
 split at h
 .
  rename_i h4;split at h
  .
   rename_i h5;exact ⟨hb,.inl ⟨((hz _ _).1 h4).1,((hz _ _).1 h4).2,h5⟩,by omega,by omega⟩
  cases h
 rename_i h4
 split at h
 .
  cases h
 rename_i h5
 have hwi:lC m.2.1.1 m.2.1.2=true:=by
  cases hwi:lC m.2.1.1 m.2.1.2 with
  |true=>rfl
  |false=>exact absurd (.inl hwi) h5
 have hsc:cO m.2.2.1=true:=by
  cases hs:cO m.2.2.1 with
  |true=>rfl
  |false=>exact absurd (.inr (.inl hs)) h5
 obtain ⟨a1,a2,a3⟩:=hw _ _ hwi
 exact ⟨hb,.inr ⟨a3,a1,a2,hsc⟩,by omega,by omega⟩
theorem zP {m:Mm} (h:vI m=0) (put:List Tok):dS ⟨0,0,0,0,0,put⟩ (lF m)=some ⟨m.1.1,m.1.2,m.2.1.1,m.2.1.2,m.2.2.1,put⟩:=by
 obtain ⟨hb,hi,_⟩:=kI h
 have h1:dS ⟨0,0,0,0,0,put⟩ (qe m.1.1 m.1.2)=some ⟨m.1.1,m.1.2,0,0,0,put⟩:=by
  unfold qe;by_cases h0:m.1.1=0/\m.1.2=0
  .
   rw[if_pos h0,h0.1,h0.2];rfl
  rw[if_neg h0];have hv:=hb.resolve_left h0
  show (match (if (43:UInt8)=43/\(0:Int)=0/\(0:Int)=0/\bw m.1.1 m.1.2=true then some (⟨m.1.1,m.1.2,0,0,0,put⟩:TS) else none) with
   |some s'=>dS s' []
   |none=>none)=_
  rw[if_pos ⟨rfl,rfl,rfl,hv⟩];rfl
 unfold lF
 rw[uq,h1]
 show dS ⟨m.1.1,m.1.2,0,0,0,put⟩ (Au m.2.1.1 m.2.1.2 m.2.2.1)=_
 unfold Au
 rcases hi with ⟨a1,a2,a3⟩|⟨a1,a2,a3,a4⟩
 .
  rw[if_pos ⟨a1,a2⟩,a1,a2,a3];rfl
 rw[if_neg a1]
 show (match (if (43:UInt8)=43/\(0:Int)=0/\(0:Int)=0/\bw m.2.1.1 m.2.1.2=true/\m.2.1.1≠8/\cO m.2.2.1=true then some (⟨m.1.1,m.1.2,m.2.1.1,m.2.1.2,m.2.2.1,put⟩:TS) else none) with
  |some s'=>dS s' []
  |none=>none)=_
 rw[if_pos ⟨rfl,rfl,rfl,a2,a3,a4⟩];rfl
theorem xA {m:Mm} (h:vI m=0):FV (lF m)/\(cX (lF m)).length<=40:=by
 obtain ⟨hb,hi,_⟩:=kI h
 have h1:FV (qe m.1.1 m.1.2)/\(cX (qe m.1.1 m.1.2)).length<=20:=by
  unfold qe;by_cases h0:m.1.1=0/\m.1.2=0
  .
   rw[if_pos h0];exact ⟨λq hq=>(by cases hq),by simp[cX]⟩
  rw[if_neg h0];have hv:=hb.resolve_left h0;have:=(bT hv).2.1;exact ⟨λq hq=>by rw[List.mem_singleton.1 hq];exact ⟨.inl rfl,hv⟩,by simp[cX,Tm.txt];omega⟩
 have h2:FV (Au m.2.1.1 m.2.1.2 m.2.2.1)/\(cX (Au m.2.1.1 m.2.1.2 m.2.2.1)).length<=20:=by
  unfold Au;rcases hi with ⟨a1,a2,a3⟩|⟨a1,a2,a3,a4⟩
  .
   rw[if_pos ⟨a1,a2⟩];exact ⟨λq hq=>(by cases hq),by simp[cX]⟩
  rw[if_neg a1];have:=(bT a2).2.1
  have hd:(zN m.2.2.1).length=1:=by
   unfold zN;split
   .
    rfl
   split
   .
    rfl
   split<;>rfl
  exact ⟨λq hq=>by rw[List.mem_singleton.1 hq];exact ⟨.inl rfl,a2,a4⟩,by simp[cX,Tm.txt,hd];omega⟩
 refine ⟨λq hq=>?_,?_⟩
 .
  unfold lF at hq;rcases List.mem_append.1 hq with hq|hq
  .
   exact h1.1 q hq
  exact h2.1 q hq
 unfold lF
 rw[gb,List.length_append]
 omega
def P1 (n:Int):List Tok:=(if n<0 then [tS 45] else [])++[tS 40,tH n.natAbs,tS 41]
def X1 (n:Int):List Nd:=(1,n.natAbs,[],0,0)::(if n<0 then [(5,0,[],0,0)] else [])
theorem FW (n:Int):ak (P1 n) 0=(X1 n,((P1 n).length:Int),0,0):=by
 unfold P1 X1
 by_cases h:n<0
 .
  rw[if_pos h,if_pos h];generalize ((n.natAbs:Nat):Int)=v;kernel_rfl
 rw[if_neg h,if_neg h];generalize ((n.natAbs:Nat):Int)=v;kernel_rfl
theorem Vh {n:Int} (h : -2147483648<=n/\n<=2147483647):rf (X1 n) jY 100 0=(n,false,0):=by
 unfold X1
 by_cases h0:n<0
 .
  rw[if_pos h0];have e:∀v:Int,rf [(1,v,[],0,0),(5,0,[],0,0)] jY 100 0=(IntKind.wrap .i64 (0-v),false,0):=λv=>by kernel_rfl
  rw[e,i64_in (by omega) (by omega)]
  exact Prod.ext (show (0:Int)-(n.natAbs:Int)=n by omega) rfl
 rw[if_neg h0]
 have e:∀v:Int,rf [(1,v,[],0,0)] jY 100 0=(v,false,0):=λv=>by kernel_rfl
 rw[e]
 exact Prod.ext (show (n.natAbs:Int)=n by omega) rfl
def P2 (a r:Int):List Tok:=[tS 40,tH a.natAbs,tS 41,tS (QW r),tS 40,tH r.natAbs,tS 41]
def X2 (a r:Int):List Nd:=[(1,a.natAbs,[],0,0),(1,r.natAbs,[],0,0),(if r<0 then 11 else 10,0,[],0,1)]
theorem Qz (a r:Int):ak (P2 a r) 0=(X2 a r,((P2 a r).length:Int),0,0):=by
 unfold P2 X2 QW
 by_cases h:r<0
 .
  rw[if_pos h,if_pos h];generalize ((a.natAbs:Nat):Int)=v;generalize ((r.natAbs:Nat):Int)=w;kernel_rfl
 rw[if_neg h,if_neg h];generalize ((a.natAbs:Nat):Int)=v;generalize ((r.natAbs:Nat):Int)=w;kernel_rfl
theorem acT {a r:Int} (ha:0<=a/\a<=2147483647) (hr : -4294967296<=r/\r<=4294967296):rf (X2 a r) jY 100 0=(a+r,false,0):=by
 unfold X2
 by_cases h0:r<0
 .
  rw[if_pos h0];have e:∀v w:Int,rf [(1,v,[],0,0),(1,w,[],0,0),(11,0,[],0,1)] jY 100 0=(IntKind.wrap .i64 (v-w),false,0):=λv w=>by kernel_rfl
  rw[e,i64_in (by omega) (by omega)]
  exact Prod.ext (show (a.natAbs:Int)-(r.natAbs:Int)=a+r by omega) rfl
 rw[if_neg h0]
 have e:∀v w:Int,rf [(1,v,[],0,0),(1,w,[],0,0),(10,0,[],0,1)] jY 100 0=(IntKind.wrap .i64 (v+w),false,0):=λv w=>by kernel_rfl
 rw[e,i64_in (by omega) (by omega)]
 exact Prod.ext (show (a.natAbs:Int)+(r.natAbs:Int)=a+r by omega) rfl
structure Wd (w:List UInt8) (z:Int) (wt:List Tok):Prop where
 lx:∀(e:List UInt8) (ts:List Tok),Lx e ts->Lx (w++e) (wt++ts)
 op:∀r:List Tok,aq ([tN [108,101,97],tN (av 4 0),tS 44]++wt++tS 91::r) 3=eY ([tN [108,101,97],tN (av 4 0),tS 44]++wt++tS 91::r) (3+wt.length:Nat) z
 len:w.length<=10
theorem T5:Wd [] 0 [] where
 lx e ts h:=h
 op r:=by
  have dJ:at? ([tN [108,101,97],tN (av 4 0),tS 44]++[]++tS 91::r) 3=some (tS 91):=rfl;have hr:dZ rp (tS 91)=none:=by unfold dZ tS;rw[if_neg (by simp)]
  have DH:aN ([tN [108,101,97],tN (av 4 0),tS 44]++[]++tS 91::r) 3 [91]=true:=by unfold aN;rw[dJ];rfl
  unfold aq;rw[if_neg (by simp;omega),dJ]
  simp only;rw[hr,DH];rfl
 len:=by simp
theorem B8 {wd:List UInt8} {z:Int} (hn:ay wd=true) (hr:dZ rp (tN wd)=none) (hw:dQ (tN wd)=(z,0)) (hz:0<z) (hl:wd.length<=9):Wd (wd++[32]) z [tN wd] where
 lx e ts h:=by
  rw[List.append_assoc];exact Lx.name hn (sG _) (Lx.blank h)
 op r:=by
  have dJ:at? ([tN [108,101,97],tN (av 4 0),tS 44]++[tN wd]++tS 91::r) 3=some (tN wd):=rfl;have Ft:at? ([tN [108,101,97],tN (av 4 0),tS 44]++[tN wd]++tS 91::r) (3+1)=some (tS 91):=rfl;have DH:aN ([tN [108,101,97],tN (av 4 0),tS 44]++[tN wd]++tS 91::r) (3+1) [91]=true:=by unfold aN;rw[Ft];rfl
  unfold aq;rw[if_neg (by simp;omega),dJ]
  simp only;rw[hr,hw];simp only;rw[if_pos hz,if_pos DH];rfl
 len:=by simp;omega
theorem T6 {m:Mm} (h:vI m=0):nX 12 [j3 4 0,(2,(0,0),m,0)]=0:=by
 have h1:zf (j3 4 0)=0:=by kernel_rfl
 have h2:zf ((2,(0,0),m,0):Arg)=0:=h
 have h3:mH [j3 4 0,(2,(0,0),m,0)]=0:=by
  unfold mH;rw[h1,if_neg (λz=>z rfl)]
  unfold mH;rw[h2,if_neg (λz=>z rfl)];rfl
 unfold nX
 rw[if_neg (by decide),if_neg (by simp),h3,if_neg (λz=>z rfl)]
 rfl
theorem LH {m:Mm} (h:vI m=0) {w:List UInt8} {wt:List Tok} (hw:Wd w m.2.2.2.2 wt) {q:UInt8×Tm} {ts:List (UInt8×Tm)} (hq:FV (q::ts)) (hlen:(cX (q::ts)).length<=200) {put:List Tok} {X:List Nd}
 (ha:dS FD (q::ts)=some ⟨m.1.1,m.1.2,m.2.1.1,m.2.1.2,m.2.2.1,put⟩) (hp:put≠[]) (hx:ak put 0=(X,(put.length:Int),0,0)) (hX:X≠[]) (he:rf X jY 100 0=(m.2.2.2.1,false,0)) :
 eR (mI++w++[91]++cX (q::ts)++[93])=((12,[j3 4 0,(2,(0,0),m,0)]),true):=by
 have acU:av 4 0=[101,97,120]:=by kernel_rfl
 have hlx:Lx (mI++w++[91]++cX (q::ts)++[93]) ([tN [108,101,97],tN (av 4 0),tS 44]++wt++tS 91::(di (q::ts)++[tS 93])):=by
  have e:mI++w++[91]++cX (q::ts)++[93]=[108,101,97]++(32::(av 4 0++(44::32::(w++(91::(cX (q::ts)++[93])))))):=by rw[acU];simp[mI]
  have e2:[tN [108,101,97],tN (av 4 0),tS 44]++wt++tS 91::(di (q::ts)++[tS 93])=tN [108,101,97]::tN (av 4 0)::tS 44::(wt++tS 91::(di (q::ts)++[tS 93])):=by simp
  rw[e,e2];have hn:ay (av 4 0)=true:=by rw[acU];decide
  exact Lx.name (by decide) (sG _) (Lx.blank (Lx.name hn (zK _) (Lx.sign (d:=44) (by simp) (Lx.blank (hw.lx _ _ (Lx.sign (d:=91) (by simp) (JY _ hq)))))))
 generalize hl:[tN [108,101,97],tN (av 4 0),tS 44]++wt++tS 91::(di (q::ts)++[tS 93])=l at hlx
 have hop:=hw.op (di (q::ts)++[tS 93])
 rw[hl] at hop
 obtain ⟨d,t⟩:=q
 have hpl:=Qy (l:=l) (h:=[tN [108,101,97],tN (av 4 0),tS 44]++wt) (m:=m) hl.symm hq ha hp hx h
 rw[show (([tN [108,101,97],tN (av 4 0),tS 44]++wt).length:Nat)=3+wt.length by simp;omega] at hpl
 rw[hpl] at hop
 have oz:at? l 0=some (tN [108,101,97]):=by rw[<-hl];rfl
 have oC:at? l 1=some (tN (av 4 0)):=by rw[<-hl];rfl
 have agP:aN l 2 [44]=true:=by unfold aN;rw[<-hl];rfl
 have aib:4<=l.length:=by rw[<-hl];simp;omega
 have YS:aF l 0=(12,0,[lI 4 0,wR m X],0,0):=by
  have ho:zY l 0=(12,true):=by
   unfold zY;rw[oz];show nm.dz [108,101,97]=(12,true)
   kernel_rfl
  have hh:jt l 0=0:=by
   unfold jt;rw[show (0:Int)+1=1 from rfl,oC];have:=(bT (c:=4) (x:=0) (by decide)).2.2.1
   simp only;rw[this]
  unfold aF;rw[if_neg (by omega),ho,hh]
  simp only;rw[if_neg (by simp)]
  unfold HY;rw[if_pos (show (0:Int)=0 from rfl),if_neg (by omega)]
  have e1:=qd (l:=l) (op:=12) (h:=0) (n:=4) (args:=[]) (b:=2) (sD (a:=1) (by omega) oC (by decide) (by decide)) (by omega) agP (by simp)
  have e2:=nr (l:=l) (op:=12) (h:=0) (n:=3) (args:=[]++[gx 12 (lI 4 0)]) (a:=3) hop rfl;have e3:zZ l 12 0 5 1 []=some (12,0,[]++[gx 12 (lI 4 0)]++[gx 12 (wR m X)],0,0):=e1.trans e2;rw[show (0:Int)+1=1 from rfl,e3,nZ]
  have:gx 12 (wR m X)=wR m X:=by
   unfold gx;rw[if_neg (λz=>by have:=z.1;simp[wR] at this)]
  rw[this];rfl
 have gm:ju (wR m X) jY 100 0 110=((2,(0,0),m,0),false,0):=by
  unfold ju;rw[if_neg (show ¬(wR m X).1=1 by simp[wR])]
  show (if 0<X.length then (if (rf X jY 100 0).2.2≠0 then _ else B4 (wR m X) (rf X jY 100 0).1 (rf X jY 100 0).2.1 110) else _)=_;rw[if_pos (List.length_pos_iff.2 hX),he];rfl
 obtain ⟨z,h1,h2⟩:=n9 (op:=12) (L:=[lI 4 0,wR m X]) (A:=[j3 4 0,(2,(0,0),m,0)]) hlx (by have:=hw.len;simp[mI];omega) YS rfl (λi hi=>by
  have:i=0\/i=1:=by simp at hi;omega
  rcases this with rfl|rfl
  .
   exact ⟨_,nY 4 0⟩
  exact ⟨_,gm⟩)
 rw[h1,T6 h,if_neg (λz=>z rfl)]
end
end Go.Proofs.YtpaddkkfefgkfaaGreatDoor.ps.iq
