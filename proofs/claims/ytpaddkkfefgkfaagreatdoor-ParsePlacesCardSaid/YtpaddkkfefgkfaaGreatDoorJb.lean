/- ParsePlaces: terms, their tokens, what they come to. -/
import Derived.Test.YtpaddkkfefgkfaaGreatDoorJa
set_option linter.unusedVariables false
set_option linter.unusedSimpArgs false
namespace Go.Proofs.YtpaddkkfefgkfaaGreatDoor.ps.iq
open Go.Tv Go.Ev Go.Px Go.Pp Go.Proofs.YtpaddkkfefgkfaaGreatDoor.ex
set_option maxRecDepth 100000
noncomputable section
inductive Tm where
 |rg (c x:Int)
 |ix (c x sc:Int)
 |nu (v:Nat)
def Tm.toks:Tm->List Tok
 |.rg c x=>[tN (av c x)]
 |.ix c x sc=>[tN (av c x),tS 42,tH sc]
 |.nu v=>[tH v]
def di:List (UInt8×Tm)->List Tok
 |[]=>[]
 |q::l=>tS q.1::(q.2.toks++di l)
def uo (d:UInt8) (s:TS):Tm->Option TS
 |.rg c x=>if d=43/\s.bc=0/\s.bn=0/\bw c x=true then some { s with bc:=c,bn:=x } else none
 |.ix c x sc=>if d=43/\s.ic=0/\s.ix=0/\bw c x=true/\c≠8/\cO sc=true then some { s with ic:=c,ix:=x,sc:=sc } else none
 |.nu v=>some { s with put:=(if d=45\/s.put≠[] then s.put++[tS d] else s.put)++[tS 40]++[tH v]++[tS 41] }
def dS (s:TS):List (UInt8×Tm)->Option TS
 |[]=>some s
 |
  q::l=>match uo q.1 s q.2 with
  |some s'=>dS s' l
  |none=>none
theorem B6 {e a:Int} {p:Tok} {w:List UInt8} {r:List Tok}:cP e p (tN w::r) a 0=cP e (tN w) r (a+1) 0:=by
 have h:∀s,dO (tN w) s=false:=λs=>rfl
 rw[cP,h,h,h,h]
 simp
theorem FU {e a:Int} {p:Tok} {v:Int} {r:List Tok}:cP e p (tH v::r) a 0=cP e (tH v) r (a+1) 0:=by
 have h:∀s,dO (tH v) s=false:=λs=>rfl
 rw[cP,h,h,h,h]
 simp
theorem LD {e a:Int} {p:Tok} {r:List Tok}:cP e p (tS 42::r) a 0=cP e (tS 42) r (a+1) 0:=by
 have h1:dO (tS 42) [40]=false:=by decide
 have h2:dO (tS 42) [41]=false:=by decide
 have h3:dO (tS 42) [43]=false:=by decide
 have h4:dO (tS 42) [45]=false:=by decide
 rw[cP,h1,h2,h3,h4]
 simp
theorem LF {e a:Int} {p:Tok} {d:UInt8} (hd:d=43\/d=45) (hp:ri p=true) {r:List Tok}:cP e p (tS d::r) a 0=a:=by
 rw[cP]
 rcases hd with rfl|rfl
 .
  have h1:dO (tS 43) [40]=false:=by decide
  have h2:dO (tS 43) [41]=false:=by decide
  have h3:dO (tS 43) [43]=true:=by decide
  rw[h1,h2,h3,hp];simp
 have h1:dO (tS 45) [40]=false:=by decide
 have h2:dO (tS 45) [41]=false:=by decide
 have h3:dO (tS 45) [45]=true:=by decide
 rw[h1,h2,h3,hp]
 simp
theorem Qu {e a:Int} {p:Tok} (t:Tm) {ts:List (UInt8×Tm)} (hts:∀q∈ts,q.1=43\/q.1=45):cP e p (t.toks++di ts) a 0=if ts=[] then e else a+t.toks.length:=by
 have tail:∀(p:Tok) (a:Int),ri p=true->cP e p (di ts) a 0=if ts=[] then e else a:=λp a hp=>by
  cases ts with
  |nil=>rfl
  |
   cons q ts =>
   rw[if_neg (by simp)]
   exact LF (hts q (by simp)) hp
 cases t with
 |
  rg c x =>
  show cP e p (tN (av c x)::di ts) a 0=_;rw[B6,tail _ _ rfl];rfl
 |
  ix c x sc =>
  show cP e p (tN (av c x)::tS 42::tH sc::di ts) a 0=_;rw[B6,LD,FU,tail _ _ rfl];split
  .
   rfl
  show a+1+1+1=a+3;omega
 |
  nu v =>
  show cP e p (tH v::di ts) a 0=_;rw[FU,tail _ _ rfl];rfl
theorem Qv {c x:Int} (h:bw c x=true):dY (tN (av c x)) [114,105,112]=decide (c=8/\x=0):=by
 obtain ⟨_,_,_,hp⟩:=bT h
 unfold dY tN
 simp only[decide_true,Bool.true_and]
 rw[decide_eq_decide]
 constructor
 .
  intro he;rw[he] at hp;have h0:rp [114,105,112]=(8,0,true):=by kernel_rfl
  rw[h0] at hp;cases hp;exact ⟨rfl,rfl⟩
 rintro ⟨rfl,rfl⟩
 kernel_rfl
theorem JX {c x:Int} (hv:bw c x=true) (h8:c≠8):dZ rp (tN (av c x))=some (c,x):=by
 obtain ⟨_,_,_,hp⟩:=bT hv
 show (if (1:Int)=1/\(rp (av c x)).2.2=true/\(rp (av c x)).1≠8 then some ((rp (av c x)).1,(rp (av c x)).2.1) else none)=_
 rw[hp]
 exact if_pos ⟨rfl,rfl,h8⟩
theorem YV {l p r:List Tok} {d:UInt8} (hd:d=43\/d=45) {t:Tm} {s s':TS} (hl:l=p++(t.toks++r)) (hs:uo d s t=some s'):dR rp l [d] (p.length:Int) ((p.length:Int)+t.toks.length) s=okO s':=by
 have hd':∀X Y:js,d=43->(if [d]=[45] then X else Y)=Y:=λX Y h=>by rw[h];rfl
 cases t with
 |
  rg c x =>
  dsimp only[uo] at hs
  split at hs
  case isFalse=>cases hs
  rename_i hc;obtain ⟨rfl,b1,b2,hv⟩:=hc;cases hs;have dJ:at? l (p.length:Int)=some (tN (av c x)):=by rw[hl];exact sB p r _
  have hal:∀c x:Int,fH [43] (c,x) (p.length:Int) s=okO { s with bc:=c,bn:=x }:=λc x=>by
   unfold fH;rw[if_neg (by decide),if_pos ⟨b1,b2⟩]
  show dR rp l [43] (p.length:Int) ((p.length:Int)+([tN (av c x)]:List Tok).length) s=_;unfold dR;rw[if_neg (show ¬((p.length:Int)+([tN (av c x)]:List Tok).length-p.length=0) by simp;omega),if_pos (show ((p.length:Int)+([tN (av c x)]:List Tok).length-p.length=1) by simp;omega),dJ]
  simp only;rw[Qv hv];by_cases h8:c=8/\x=0
  .
   obtain ⟨rfl,rfl⟩:=h8;exact hal 8 0
  rw[decide_eq_false h8,if_neg (by simp)]
  have h8:c≠8:=λh=>by
   have hv:=of_decide_eq_true hv;exact h8 ⟨h,by omega⟩
  rw[JX hv h8];exact hal c x
 |
  ix c x sc =>
  dsimp only[uo] at hs
  split at hs
  case isFalse=>cases hs
  rename_i hc;obtain ⟨rfl,b1,b2,hv,h8,hsc⟩:=hc;cases hs;have dJ:at? l (p.length:Int)=some (tN (av c x)):=by rw[hl];exact sB p (tS 42::tH sc::r) _
  have e1:l=(p++[tN (av c x)])++tS 42::tH sc::r:=by rw[hl];simp[Tm.toks]
  have e2:l=(p++[tN (av c x),tS 42])++tH sc::r:=by rw[hl];simp[Tm.toks]
  have oC:at? l ((p.length:Int)+1)=some (tS 42):=by
   have:=sB (p++[tN (av c x)]) (tH sc::r) (tS 42);rw[<-e1,List.length_append] at this;exact this
  have Ft:at? l ((p.length:Int)+2)=some (tH sc):=by
   have:=sB (p++[tN (av c x),tS 42]) r (tH sc);rw[<-e2,List.length_append] at this;exact this
  have DH:aN l ((p.length:Int)+1) [42]=true:=by unfold aN;rw[oC];rfl
  have Iz:dZ rp (tH sc)=none:=by unfold dZ tH;rw[if_neg (by simp)]
  have hlen:(p.length:Int)+([tN (av c x),tS 42,tH sc]:List Tok).length-p.length=3:=by simp;omega
  show dR rp l [43] (p.length:Int) ((p.length:Int)+([tN (av c x),tS 42,tH sc]:List Tok).length) s=_;unfold dR;rw[hlen,if_neg (by decide),if_neg (by decide),if_pos ⟨rfl,DH⟩,dJ,Ft]
  simp only;rw[JX hv h8,Iz];simp only;rw[if_pos (show (tH sc).1=2 from rfl)];unfold dB;rw[if_neg (show ¬([(43:UInt8)]=[45]\/¬(s.ic=0/\s.ix=0)) from λh=>by rcases h with h|h;exact absurd h (by decide);exact h ⟨b1,b2⟩),show (tH sc).2.1=sc from rfl,if_pos hsc]
 |
  nu v =>
  cases hs;have dJ:at? l (p.length:Int)=some (tH v):=by rw[hl];exact sB p r _
  have hlen:(p.length:Int)+([tH v]:List Tok).length-p.length=1:=by simp;omega
  have Iz:dZ rp (tH v)=none:=by unfold dZ tH;rw[if_neg (by simp)]
  have hnr:dY (tH v) [114,105,112]=false:=rfl
  have Ff:zi l (p.length:Int) ((p.length:Int)+([tH v]:List Tok).length)=[tH v]:=by
   unfold zi;rw[hl];simp[Tm.toks]
  show dR rp l [d] (p.length:Int) ((p.length:Int)+([tH v]:List Tok).length) s=_;unfold dR;rw[hlen,if_neg (by decide),if_pos rfl,dJ]
  simp only;rw[hnr,if_neg (by simp),Iz]
  simp only;unfold iP;show okO _=okO _;rw[Ff];have hcond:([d]=[(45:UInt8)]\/s.put≠[])↔(d=45\/s.put≠[]):=by simp
  by_cases hq:d=45\/s.put≠[]
  .
   rw[if_pos (hcond.2 hq),if_pos hq];rfl
  rw[if_neg (λz=>hq (hcond.1 z)),if_neg hq];rfl
theorem Qw {l:List Tok} {e:Int}:∀(ts:List (UInt8×Tm)) (d:UInt8) (t:Tm) (p:List Tok) (m:Nat) (s s':TS),l=p++(tS d::(t.toks++di ts))++[tS 93]->e=(l.length:Int)-1->ts.length<m->(∀q∈(d,t)::ts,q.1=43\/q.1=45)->dS s ((d,t)::ts)=some s'->Pp.gw rp l e m [d] ((p.length:Int)+1) s=some (okO s')
 |ts,d,t,p,0,s,s',_,_,hm,_,_=>by omega
 |
  ts,d,t,p,m+1,s,s',hl,he,hm,hq,ha=>by
  have hd:=hq (d,t) (by simp)
  have hts:∀q∈ts,q.1=43\/q.1=45:=λq h=>hq q (by simp[h])
  obtain ⟨s1,h1,h2⟩:∃s1,uo d s t=some s1/\dS s1 ts=some s':=by
   unfold dS at ha;simp only at ha;cases ho:uo d s t with
   |none=>rw[ho] at ha;cases ha
   |some s1=>rw[ho] at ha;exact ⟨s1,rfl,ha⟩
  have hp:l=(p++[tS d])++(t.toks++(di ts++[tS 93])):=by rw[hl];simp
  have hlen:l.length=p.length+1+(t.toks.length+(di ts).length)+1:=by rw[hp];simp;omega
  have hpl:(p++[tS d]).length=p.length+1:=by simp
  have hst:bx l ((p.length:Int)+1) e=if ts=[] then e else (p.length:Int)+1+t.toks.length:=by
   unfold bx
   have h3:((l.take e.toNat).drop ((p.length:Int)+1).toNat)=t.toks++di ts:=by
    have e1:e.toNat=(p++[tS d]).length+(t.toks++di ts).length:=by rw[hpl,List.length_append];omega
    have e2:((p.length:Int)+1).toNat=(p++[tS d]).length:=by rw[hpl];omega
    have e3:l=((p++[tS d])++(t.toks++di ts))++[tS 93]:=by rw[hp];simp
    rw[e1,e2,e3,List.take_append_of_le_length (Nat.le_of_eq List.length_append.symm),List.take_of_length_le (Nat.le_of_eq List.length_append),List.drop_left]
   rw[h3];exact Qu t hts
  have hone:=YV (l:=l) (p:=p++[tS d]) (r:=di ts++[tS 93]) hd hp h1;rw[hpl] at hone;have hone:dR rp l [d] ((p.length:Int)+1) ((p.length:Int)+1+t.toks.length) s=okO s1:=hone;rw[Pp.gw,hst];cases ts with
  |
   nil =>
   rw[if_pos rfl]
   have hee:e=(p.length:Int)+1+t.toks.length:=by
    have:(di []).length=0:=rfl;omega
   rw[hee,hone];have h2:s1=s':=Option.some.inj h2;rw[<-h2];show (if _=_ then some (okO s1) else _)=_;rw[if_pos rfl]
  |
   cons q ts =>
   rw[if_neg (by simp),hone]
   have ZG:(di (q::ts)).length=1+(q.2.toks.length+(di ts).length):=by simp[di];omega
   show (if (p.length:Int)+1+t.toks.length=e then some (okO s1) else match at? l ((p.length:Int)+1+t.toks.length) with
    |some t'=>Pp.gw rp l e m t'.2.2.1 ((p.length:Int)+1+t.toks.length+1) s1
    |none=>none)=_
   rw[if_neg (by omega)]
   have sR:l=(p++tS d::t.toks)++(tS q.1::(q.2.toks++di ts))++[tS 93]:=by rw[hl];simp[di]
   have dJ:at? l ((p.length:Int)+1+t.toks.length)=some (tS q.1):=by
    have:=sB (p++tS d::t.toks) ((q.2.toks++di ts)++[tS 93]) (tS q.1);rw[show (p++tS d::t.toks)++tS q.1::((q.2.toks++di ts)++[tS 93])=l by rw[sR];simp] at this
    rw[<-this]
    congr 1
    simp;omega
   rw[dJ];have ih:=Qw ts q.1 q.2 (p++tS d::t.toks) m s1 s' sR he (by simp at hm;omega) hts h2
   simp only;rw[<-ih]
   congr 1
   simp;omega
end
end Go.Proofs.YtpaddkkfefgkfaaGreatDoor.ps.iq
