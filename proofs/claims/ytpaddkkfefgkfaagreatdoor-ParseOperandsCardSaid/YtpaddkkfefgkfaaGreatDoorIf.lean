/- ParseOperands: what its text is read as, and that the law answers true. -/
import Derived.Test.YtpaddkkfefgkfaaGreatDoorIe
set_option linter.unusedVariables false
set_option linter.unusedSimpArgs false
namespace Go.Proofs.YtpaddkkfefgkfaaGreatDoor.ps.iq
open Go.Tv Go.Ev Go.Px Go.Pp Go.Proofs.YtpaddkkfefgkfaaGreatDoor.ex
set_option maxRecDepth 100000
noncomputable section
theorem nr {l:List Tok} {op h a b:Int} {raw:Raw} {n:Nat} {args:List Raw} (ho:aq l a=(raw,b,0,0)) (hb:b=l.length):zZ l op h (n+1) a args=some (op,h,args++[gx op raw],0,0):=by
 unfold zZ
 rw[ho]
 simp only
 rw[if_neg (λq=>q rfl),if_pos hb]
theorem qd {l:List Tok} {op h a b:Int} {raw:Raw} {n:Nat} {args:List Raw} (ho:aq l a=(raw,b,0,0)) (hb:b≠l.length) (hs:aN l b [44]=true) (ha:args.length<=2):zZ l op h (n+1) a args=zZ l op h n (b+1) (args++[gx op raw]):=by
 rw[zZ,ho]
 simp only
 rw[if_neg (λq=>q rfl),if_neg hb,hs,if_neg (by simp),if_neg (by omega)]
theorem sD {l:List Tok} {a c x:Int} (h0:0<=a) (dJ:at? l a=some (tN (av c x))) (hv:bw c x=true) (h8:c≠8):aq l a=XR (c,x) a:=by
 obtain ⟨_,_,_,hp⟩:=bT hv
 have hlt:=(gM dJ).2
 have hr:dZ rp (tN (av c x))=some (c,x):=by
  show (if (1:Int)=1/\(rp (av c x)).2.2=true/\(rp (av c x)).1≠8 then some ((rp (av c x)).1,(rp (av c x)).2.1) else none)=_;rw[hp];exact if_pos ⟨rfl,rfl,h8⟩
 unfold aq
 rw[if_neg (by omega),dJ]
 simp only
 rw[hr]
theorem Ig {l:List Tok} {a:Int} (h0:0<=a) (dJ:at? l a=some (tS 45)):aq l a=ps.lH (ak l a):=by
 have hlt:=(gM dJ).2
 have hr:dZ rp (tS 45)=none:=by unfold dZ tS;rw[if_neg (by simp)]
 have DH:aN l a [91]=false:=by unfold aN;rw[dJ];rfl
 unfold aq
 rw[if_neg (by omega),dJ]
 simp only
 rw[hr,DH]
 rfl
theorem vN {op:Int} (hv:cy op=true) {r:List Tok} {c:List Raw} (hh:jt (tN (nm.bL op)::r) 0=0) (hc:r≠[]->zZ (tN (nm.bL op)::r) op 0 5 1 []=some (op,0,c,0,0)) (h0:r=[]->c=[]):aF (tN (nm.bL op)::r) 0=(op,0,c,0,0):=by
 obtain ⟨hp,_,_⟩:=jC hv
 have ho:zY (tN (nm.bL op)::r) 0=(op,true):=hp
 unfold aF
 rw[if_neg (by simp;omega),ho,hh]
 simp only
 rw[if_neg (by simp)]
 unfold HY
 rw[if_pos (show (0:Int)=0 from rfl)]
 by_cases hr:r=[]
 .
  subst hr;rw[if_pos (show (0:Int)+1=(([tN (nm.bL op)]:List Tok).length:Int) from rfl),h0 rfl]
 have hl:0<r.length:=List.length_pos_iff.2 hr
 rw[if_neg (by simp;omega)]
 show (zZ (tN (nm.bL op)::r) op 0 5 1 []).getD _=_
 rw[hc hr];rfl
def wQ (n:Int):List Tok:=[tS 45,tH 1,tS 43,tH 1,tS (if n<0 then 45 else 43),tH n.natAbs]
def sF (n:Int):List Nd:=[(1,1,[],0,0),(5,0,[],0,0),(1,1,[],0,0),(10,0,[],1,2),(1,n.natAbs,[],0,0),(if n<0 then 11 else 10,0,[],3,4)]
theorem YO (w:List UInt8) (n:Int):ak (tN w::wQ n) 1=(sF n,7,0,0):=by
 unfold wQ sF
 by_cases h:n<0
 .
  rw[if_pos h,if_pos h];generalize ((n.natAbs:Nat):Int)=v;kernel_rfl
 rw[if_neg h,if_neg h];generalize ((n.natAbs:Nat):Int)=v;kernel_rfl
theorem YP (w r:List UInt8) (n:Int):ak (tN w::tN r::tS 44::wQ n) 3=(sF n,9,0,0):=by
 unfold wQ sF
 by_cases h:n<0
 .
  rw[if_pos h,if_pos h];generalize ((n.natAbs:Nat):Int)=v;kernel_rfl
 rw[if_neg h,if_neg h];generalize ((n.natAbs:Nat):Int)=v;kernel_rfl
theorem YQ (w r r':List UInt8) (n:Int):ak (tN w::tN r::tS 44::tN r'::tS 44::wQ n) 5=(sF n,11,0,0):=by
 unfold wQ sF
 by_cases h:n<0
 .
  rw[if_pos h,if_pos h];generalize ((n.natAbs:Nat):Int)=v;kernel_rfl
 rw[if_neg h,if_neg h];generalize ((n.natAbs:Nat):Int)=v;kernel_rfl
theorem YR {n:Int} (h:vL n) (hm:n ≠ -9223372036854775808):rf (sF n) jY 100 0=(n,false,0):=by
 unfold sF
 by_cases h0:n<0
 .
  rw[if_pos h0];have e:∀v:Int,rf [(1,1,[],0,0),(5,0,[],0,0),(1,1,[],0,0),(10,0,[],1,2),(1,v,[],0,0),(11,0,[],3,4)] jY 100 0=(IntKind.wrap .i64 (IntKind.wrap .i64 (IntKind.wrap .i64 (0-1)+1)-v),false,0):=λv=>by kernel_rfl
  rw[e];have h1:=h.1;have h2:=h.2;rw[i64_in (n:=(0:Int)-1) (by omega) (by omega),i64_in (n:=(0:Int)-1+1) (by omega) (by omega),i64_in (by omega) (by omega)]
  exact Prod.ext (show (0:Int)-1+1-(n.natAbs:Int)=n by omega) rfl
 rw[if_neg h0]
 have e:∀v:Int,rf [(1,1,[],0,0),(5,0,[],0,0),(1,1,[],0,0),(10,0,[],1,2),(1,v,[],0,0),(10,0,[],3,4)] jY 100 0=(IntKind.wrap .i64 (IntKind.wrap .i64 (IntKind.wrap .i64 (0-1)+1)+v),false,0):=λv=>by kernel_rfl
 rw[e]
 have h1:=h.1
 have h2:=h.2
 rw[i64_in (n:=(0:Int)-1) (by omega) (by omega),i64_in (n:=(0:Int)-1+1) (by omega) (by omega),i64_in (by omega) (by omega)]
 exact Prod.ext (show (0:Int)-1+1+(n.natAbs:Int)=n by omega) rfl
def lI (c x:Int):Raw:=(1,(c,x),((0,0),(0,0),0,0,0),[],false)
def LB (n:Int):Raw:=(3,(0,0),((0,0),(0,0),0,0,0),sF n,false)
def Ih (op n:Int):Arg:=if fK op=true then acL n else acK n
theorem nY (c x:Int):ju (lI c x) jY 100 0 110=(j3 c x,false,0):=rfl
theorem nZ (op c x:Int):gx op (lI c x)=lI c x:=by
 unfold gx
 rw[if_neg (λh=>by have:=h.1;simp[lI] at this)]
theorem arg_num {op n:Int} (h:vL n) (hm:n ≠ -9223372036854775808):∃p,ju (gx op (LB n)) jY 100 0 110=(Ih op n,p,0):=by
 have hl:0<(sF n).length:=by unfold sF;simp
 have key:∀r:Raw,r.1≠1->r.2.2.2.1=sF n->ju r jY 100 0 110=B4 r n false 110:=λr h1 h2=>by
  have he:=YR h hm;unfold ju;rw[if_neg h1,h2,if_pos hl];generalize rf (sF n) jY 100 0=e at he ⊢;subst he;exact if_neg (λq=>q rfl)
 unfold gx Ih
 by_cases hb:fK op=true
 .
  rw[if_pos ⟨rfl,hb⟩,if_pos hb];refine ⟨true,?_⟩;rw[key _ (show (4:Int)≠1 by decide) rfl]
  show (if (4:Int)=2 then _ else if (4:Int)=3 then _ else if (4:Int)=4 then (if 0<(sF n).length then _ else _) else _)=_;rw[if_neg (by decide),if_neg (by decide),if_pos rfl,if_pos hl]
  rfl
 rw[if_neg (λq=>hb q.2),if_neg hb]
 refine ⟨false,?_⟩
 rw[key _ (show (3:Int)≠1 by decide) rfl]
 show (if (3:Int)=2 then _ else if (3:Int)=3 then (if 0<(sF n).length then _ else _) else _)=_
 rw[if_neg (by decide),if_pos rfl,if_pos hl]
 rfl
theorem JV {op:Int}:∀(L:List Raw) (A acc:List Arg) (p:Bool),L.length=A.length->(∀i,i<L.length->∃p,ju (L[i]?.getD (lI 0 0)) jY 100 0 110=(A[i]?.getD Aq,p,0)) ->
 ∃q,iZ op jY 100 0 110 L acc p=if nX op (acc++A)≠0 then ((0,[]),false,nX op (acc++A)) else ((op,acc++A),q,0)
 |[],[],acc,p,_,_=>⟨p,by rw[iZ,List.append_nil]⟩
 |[],_::_,_,_,h,_=>by simp at h
 |_::_,[],_,_,h,_=>by simp at h
 |
  r::L,a::A,acc,p,hl,h=>by
  obtain ⟨p',h0⟩:=h 0 (by simp)
  have h0:ju r jY 100 0 110=(a,p',0):=h0;obtain ⟨q,hq⟩:=JV (op:=op) L A (acc++[a]) (p||p') (by simpa using hl) (λi hi=>h (i+1) (by simp;omega))
  refine ⟨q,?_⟩;rw[iZ,h0];simp only;rw[if_neg (λq=>q rfl),hq,List.append_assoc]
  rfl
theorem qE {op:Int} {s:List UInt8} {A:List Arg} (hA:A.length<=10) (h:∃q,eR s=(if nX op A≠0 then ((0,[]),q) else ((op,A),true))/\(nX op A≠0->q=false)):vM op s A=yT:=by
 obtain ⟨q,h1,h2⟩:=h
 unfold vM
 rw[h1,aT]
 by_cases hc:nX op A=0
 .
  rw[if_pos hc,if_neg (λz=>z hc)]
  show pick2 (eqI op op) (pick2 (Nat.ble A.length 900000) (some (.bool (wP A A))) none) nT=_;rw[eqI_spec,beq_self_eq_true,fG (by omega),zA];rfl
 rw[if_neg hc,if_pos hc,h2 hc];rfl
theorem n9 {s:List UInt8} {op:Int} {toks:List Tok} {L:List Raw} {A:List Arg} (agE:Lx s toks) (hs:s.length<=1000) (YS:aF toks 0=(op,0,L,0,0)) (hl:L.length=A.length) (ha:∀i,i<L.length->∃p,ju (L[i]?.getD (lI 0 0)) jY 100 0 110=(A[i]?.getD Aq,p,0)) :
 ∃q,eR s=(if nX op A≠0 then ((0,[]),q) else ((op,A),true))/\(nX op A≠0->q=false):=by
 obtain ⟨h1,h2⟩:=agE.lex hs
 obtain ⟨q,hq⟩:=JV (op:=op) L A [] false hl ha
 rw[List.nil_append] at hq
 have hc:aF (lt.bM s).1 0=(op,0,L,0,0):=by rw[<-Lq,h2,YS]
 refine ⟨false,?_,λ_=>rfl⟩
 unfold eR
 rw[hc,h1]
 show ((iZ op jY 100 0 110 L [] false).1,decide ((0:Int)=0)&&decide ((0:Int)=0)&&decide ((iZ op jY 100 0 110 L [] false).2.2=0))=_
 rw[hq]
 by_cases hz:nX op A=0
 .
  rw[if_neg (λz=>z hz),if_neg (λz=>z hz)];rfl
 rw[if_pos hz,if_pos hz]
 simp only
 rw[decide_eq_false hz];rfl
theorem Ii {n:Int} (h:vL n) (hm:n ≠ -9223372036854775808):Lx (t6++eZ n) (wQ n):=by
 have h1:=h.1
 have h2:=h.2
 have hh:Lx (iT n.natAbs) [tH n.natAbs]:=by
  have:=Lx.hex (u:=n.natAbs) (e:=[]) (ts:=[]) (by omega) trivial Lx.nil
  rw[i64_in (n:=((n.natAbs:Nat):Int)) (by omega) (by omega),List.append_nil] at this
  exact this
 have DH:Lx ((if n<0 then (45:UInt8) else 43)::32::iT n.natAbs) [tS (if n<0 then 45 else 43),tH n.natAbs]:=Lx.sign (by split<;>simp) (Lx.blank hh)
 have w32:∀r,zI (32::r):=λr=>by show lt.dM (aD 32)=false;decide
 exact Lx.sign (d:=45) (by simp) (Lx.Zu (d:=49) (v:=1) (.inl ⟨rfl,rfl⟩) (w32 _) (Lx.blank (Lx.sign (d:=43) (by simp) (Lx.blank (Lx.Zu (d:=49) (v:=1) (.inl ⟨rfl,rfl⟩) (w32 _) (Lx.blank DH))))))
theorem sG (r:List UInt8):lt.Stop (32::r):=by show lt.iX (aD 32)=false;decide
theorem zK (r:List UInt8):lt.Stop (44::r):=by show lt.iX (aD 44)=false;decide
theorem qF {n:Int} (h:vL n):(eZ n).length<=25:=by
 have:=FQ h
 have e:(iT n.natAbs).length<=(Ar n).length:=by unfold iT Ar lt.qb;split<;>simp
 unfold eZ
 rw[List.length_append]
 simp only[List.length_cons,List.length_nil]
 omega
section
variable {op:Int} (hv:cy op=true)
include hv
theorem agF:vM op (nm.bL op) []=yT:=by
 obtain ⟨_,hn,hl⟩:=jC hv
 have hx:=Lx.name (e:=[]) (ts:=[]) hn trivial Lx.nil
 rw[List.append_nil] at hx
 exact qE (by simp) (n9 hx (by omega) (vN hv rfl (λh=>absurd rfl h) λ_=>rfl) rfl (λi hi=>by simp at hi))
theorem acO {n:Int} (h:vL n) (hm:n ≠ -9223372036854775808):vM op (nm.bL op++[32]++t6++eZ n) [Ih op n]=yT:=by
 obtain ⟨_,hn,hl⟩:=jC hv
 have hx:=Lx.name (t:=nm.bL op) hn (sG _) (Lx.blank (Ii h hm))
 have e:nm.bL op++[32]++t6++eZ n=nm.bL op++32::(t6++eZ n):=by simp
 have hs:=qF h
 rw[e]
 refine qE (by simp) (n9 (L:=[gx op (LB n)]) hx (by simp[t6];omega) (vN hv rfl (λ_=>?_) (λh=>by simp[wQ] at h)) rfl (λi hi=>?_))
 .
  exact nr (b:=7) ((Ig (by omega) rfl).trans (by rw[YO];rfl)) rfl
 obtain rfl:i=0:=by simpa using hi
 exact arg_num h hm
theorem agG {c x:Int} (hr:bw c x=true) (h8:c≠8):vM op (nm.bL op++[32]++av c x) [j3 c x]=yT:=by
 obtain ⟨_,hn,hl⟩:=jC hv
 obtain ⟨rn,rl,rw',_⟩:=bT hr
 have h1:=Lx.name (t:=av c x) (e:=[]) (ts:=[]) rn trivial Lx.nil
 rw[List.append_nil] at h1
 have hx:=Lx.name (t:=nm.bL op) hn (sG _) (Lx.blank h1)
 have e:nm.bL op++[32]++av c x=nm.bL op++32::av c x:=by simp
 rw[e]
 refine qE (by simp) (n9 (L:=[lI c x]) hx (by simp;omega) (vN hv (by show (dQ (tN (av c x))).2=0;rw[rw']) (λ_=>?_) (λh=>by simp at h)) rfl (λi hi=>?_))
 .
  have:=nr (l:=[tN (nm.bL op),tN (av c x)]) (op:=op) (h:=0) (n:=4) (args:=[]) (b:=2) (sD (a:=1) (by omega) rfl hr h8) rfl
  rw[this];show some (op,(0:Int),[gx op (lI c x)],(0:Int),(0:Int))=_;rw[nZ]
 obtain rfl:i=0:=by simpa using hi
 exact ⟨_,nY c x⟩
theorem acP {c x n:Int} (hr:bw c x=true) (h8:c≠8) (h:vL n) (hm:n ≠ -9223372036854775808):vM op (nm.bL op++[32]++av c x++[44,32]++t6++eZ n) [j3 c x,Ih op n]=yT:=by
 obtain ⟨_,hn,hl⟩:=jC hv
 obtain ⟨rn,rl,rw',_⟩:=bT hr
 have h1:=Lx.name (t:=av c x) rn (zK _) (Lx.sign (d:=44) (by simp) (Lx.blank (Ii h hm)))
 have hx:=Lx.name (t:=nm.bL op) hn (sG _) (Lx.blank h1)
 have e:nm.bL op++[32]++av c x++[44,32]++t6++eZ n=nm.bL op++32::(av c x++44::32::(t6++eZ n)):=by simp
 have hs:=qF h
 rw[e]
 refine qE (by simp) (n9 (L:=[lI c x,gx op (LB n)]) hx (by simp[t6];omega) (vN hv (by show (dQ (tN (av c x))).2=0;rw[rw']) (λ_=>?_) (λh=>by simp at h)) rfl (λi hi=>?_))
 .
  refine (qd (b:=2) (sD (a:=1) (by omega) rfl hr h8) (by simp[wQ]) rfl (by simp)).trans ?_
  refine (nr (b:=9) ((Ig (by omega) rfl).trans (by rw[show (2:Int)+1=3 from rfl,YP];rfl)) rfl).trans ?_
  show some (op,(0:Int),[gx op (lI c x),gx op (LB n)],(0:Int),(0:Int))=_;rw[nZ]
 have:i=0\/i=1:=by simp at hi;omega
 rcases this with rfl|rfl
 .
  exact ⟨_,nY c x⟩
 exact arg_num h hm
theorem agH {c x c' x':Int} (hr:bw c x=true) (h8:c≠8) (hr':bw c' x'=true) (h8':c'≠8):vM op (nm.bL op++[32]++av c x++[44,32]++av c' x') [j3 c x,j3 c' x']=yT:=by
 obtain ⟨_,hn,hl⟩:=jC hv
 obtain ⟨rn,rl,rw',_⟩:=bT hr
 obtain ⟨rn',rl',_,_⟩:=bT hr'
 have h0:=Lx.name (t:=av c' x') (e:=[]) (ts:=[]) rn' trivial Lx.nil
 rw[List.append_nil] at h0
 have h1:=Lx.name (t:=av c x) rn (zK _) (Lx.sign (d:=44) (by simp) (Lx.blank h0))
 have hx:=Lx.name (t:=nm.bL op) hn (sG _) (Lx.blank h1)
 have e:nm.bL op++[32]++av c x++[44,32]++av c' x'=nm.bL op++32::(av c x++44::32::av c' x'):=by simp
 rw[e]
 refine qE (by simp) (n9 (L:=[lI c x,lI c' x']) hx (by simp;omega) (vN hv (by show (dQ (tN (av c x))).2=0;rw[rw']) (λ_=>?_) (λh=>by simp at h)) rfl (λi hi=>?_))
 .
  refine (qd (b:=2) (sD (a:=1) (by omega) rfl hr h8) (by simp[wQ]) rfl (by simp)).trans ?_
  refine (nr (b:=4) (sD (a:=3) (by omega) rfl hr' h8') rfl).trans ?_
  show some (op,(0:Int),[gx op (lI c x),gx op (lI c' x')],(0:Int),(0:Int))=_;rw[nZ,nZ]
 have:i=0\/i=1:=by simp at hi;omega
 rcases this with rfl|rfl
 .
  exact ⟨_,nY c x⟩
 exact ⟨_,nY c' x'⟩
theorem acQ {c x c' x' n:Int} (hr:bw c x=true) (h8:c≠8) (hr':bw c' x'=true) (h8':c'≠8) (h:vL n) (hm:n ≠ -9223372036854775808):vM op (nm.bL op++[32]++av c x++[44,32]++av c' x'++[44,32]++t6++eZ n) [j3 c x,j3 c' x',Ih op n]=yT:=by
 obtain ⟨_,hn,hl⟩:=jC hv
 obtain ⟨rn,rl,rw',_⟩:=bT hr
 obtain ⟨rn',rl',_,_⟩:=bT hr'
 have h0:=Lx.name (t:=av c' x') rn' (zK _) (Lx.sign (d:=44) (by simp) (Lx.blank (Ii h hm)))
 have h1:=Lx.name (t:=av c x) rn (zK _) (Lx.sign (d:=44) (by simp) (Lx.blank h0))
 have hx:=Lx.name (t:=nm.bL op) hn (sG _) (Lx.blank h1)
 have e:nm.bL op++[32]++av c x++[44,32]++av c' x'++[44,32]++t6++eZ n=nm.bL op++32::(av c x++44::32::(av c' x'++44::32::(t6++eZ n))):=by simp
 have hs:=qF h
 rw[e]
 refine qE (by simp) (n9 (L:=[lI c x,lI c' x',gx op (LB n)]) hx (by simp[t6];omega) (vN hv (by show (dQ (tN (av c x))).2=0;rw[rw']) (λ_=>?_) (λh=>by simp at h)) rfl (λi hi=>?_))
 .
  refine (qd (b:=2) (sD (a:=1) (by omega) rfl hr h8) (by simp[wQ]) rfl (by simp)).trans ?_
  refine (qd (b:=4) (sD (a:=3) (by omega) rfl hr' h8') (by simp[wQ]) rfl (by simp)).trans ?_
  refine (nr (b:=11) ((Ig (by omega) rfl).trans (by rw[show (4:Int)+1=5 from rfl,YQ];rfl)) rfl).trans ?_
  show some (op,(0:Int),[gx op (lI c x),gx op (lI c' x'),gx op (LB n)],(0:Int),(0:Int))=_;rw[nZ,nZ]
 have:i=0\/i=1\/i=2:=by simp at hi;omega
 rcases this with rfl|rfl|rfl
 .
  exact ⟨_,nY c x⟩
 .
  exact ⟨_,nY c' x'⟩
 exact arg_num h hm
end
theorem Qq (op:Int) (K:Bool->Option AV):Qn op K=K (fK op):=by
 unfold Qn fK
 rw[az,az]
 by_cases h1:op=53
 .
  rw[if_pos h1,decide_eq_true h1];rfl
 rw[if_neg h1,decide_eq_false h1]
 by_cases h2:op=54
 .
  rw[if_pos h2,decide_eq_true h2];rfl
 rw[if_neg h2,decide_eq_false h2,Bool.false_or,Bool.false_or]
 unfold wF
 by_cases h3:68<=op/\op<84
 .
  rw[if_pos h3,cA (show (68:Int)<=op from h3.1),cA (show op<=83 by omega),decide_eq_true (by omega)];rfl
 rw[if_neg h3,decide_eq_false (by omega)]
 by_cases h4:84<=op
 .
  rw[cA (show (68:Int)<=op by omega),kG (show (83:Int)<op by omega)]
  split
  .
   rfl
  split<;>rfl
 rw[if_neg (by omega),if_neg (by omega)]
theorem FT {op n:Int} {s sep:List UInt8} {A:List Arg} (h:vL n) (hs:s.length<=100) (hsep:sep.length<=10) (hy:n ≠ -9223372036854775808->vM op (s++sep++t6++eZ n) A=yT):TR op n s sep A=yT:=by
 have hl:=qF h
 have b3:∀(k:Nat) (X:Option AV),k<=300->eL k X=X:=λk X hk=>by unfold eL;rw[fG (by omega)]
 unfold TR
 rw[b3 _ _ (by omega),b3 _ _ (by simp;omega),cA (show -9223372036854775808<=n from h.1),kG (show n<9223372036854775808 from h.2)]
 show eL _ (pick2 (eqI n (-9223372036854775808)) yT _)=_
 rw[b3 _ _ (by simp[t6];omega),az]
 by_cases hm:n = -9223372036854775808
 .
  rw[if_pos hm]
 rw[if_neg hm,hy hm]
theorem zL {op n:Int} {has:Bool} {s sep:List UInt8} {A:List Arg} (h:vL n) (hs:s.length<=100) (hsep:sep.length<=10) (h0:vM op s A=yT) (h1:n ≠ -9223372036854775808->vM op (s++sep++t6++eZ n) (A++[Ih op n])=yT):Qo op n has s sep A=yT:=by
 unfold Qo
 rw[Qq]
 cases has with
 |false=>exact h0
 |
  true =>
  show pick2 (fK op) _ _=_;unfold Ih at h1;cases hb:fK op with
  |true=>rw[hb,if_pos rfl] at h1;exact FT h hs hsep h1
  |false=>rw[hb,if_neg (by simp)] at h1;exact FT h hs hsep h1
theorem zM {c x:Int} {s sep:List UInt8} {K:List UInt8->Option AV} (hs:s.length<=100) (hsep:sep.length<=10) (h:bw c x=true->c≠8->K (s++sep++av c x)=yT):Qp c x s sep K=yT:=by
 unfold Qp
 cases hv:bw c x with
 |false=>rfl
 |
  true =>
  obtain ⟨_,rl,_,_⟩:=bT hv;have b3:∀(k:Nat) (X:Option AV),k<=300->eL k X=X:=λk X hk=>by unfold eL;rw[fG (by omega)]
  show pick2 (eqI c 8) yT _=_;rw[az];by_cases h8:c=8
  .
   rw[if_pos h8]
  rw[if_neg h8,b3 _ _ (by omega),b3 _ _ (by simp;omega),h hv h8]
theorem acR (op n:Int) (l:List Rg) (has:Bool) (h:vL n):∃q,ag ex.X0 (cN V2 JS AV) ex.bK q 7 [.int .i64 op,.bA FR l,.int .i64 n,.bool has] aa.empty (λv _=>some v)=some (.bool true):=by
 have hop:∀X:Option AV,(cy op=true->X=yT)->pick2 (!cy op) yT X=some (.bool true):=λX hX=>by
  cases hv:cy op with
  |false=>rfl
  |true=>exact hX hv
 match l with
 |[]=>exact ⟨5,(TU op n has).trans (hop _ λhv=>by
  obtain ⟨_,_,hl⟩:=jC hv;exact zL h (by omega) (by simp) (agF hv) λhm=>acO hv h hm)⟩
 |[(
  c,x)]=>exact ⟨5,(TV op n c x has).trans (hop _ λhv=>by
  obtain ⟨_,_,hl⟩:=jC hv;refine zM (by omega) (by simp) λhr h8=>?_
  obtain ⟨_,rl,_,_⟩:=bT hr;exact zL h (by simp;omega) (by simp) (agG hv hr h8) λhm=>acP hv hr h8 h hm)⟩
 |[(
  c,x),(c',x')]=>exact ⟨5,(TW op n c x c' x' has).trans (hop _ λhv=>by
  obtain ⟨_,_,hl⟩:=jC hv;refine zM (by omega) (by simp) λhr h8=>?_
  obtain ⟨_,rl,_,_⟩:=bT hr;refine zM (by simp;omega) (by simp) λhr' h8'=>?_
  obtain ⟨_,rl',_,_⟩:=bT hr';exact zL h (by simp;omega) (by simp) (agH hv hr h8 hr' h8') λhm=>acQ hv hr h8 hr' h8' h hm)⟩
 |a::b::c::l=>exact ⟨0,(TT op n (a::b::c::l) has).trans (by rw[kG (by simp;omega)];rfl)⟩
theorem TZ {n:Int} (h:(Lit.int .i64 n).wf=true):vL n:=by
 simp only[Lit.wf,IntKind.min,IntKind.max,IntKind.bits,IntKind.signed,Bool.and_eq_true,decide_eq_true_eq] at h
 simp at h
 exact ⟨by omega,by omega⟩
end
end Go.Proofs.YtpaddkkfefgkfaaGreatDoor.ps.iq
