/- ParsePlaces: the text of a place, its tokens, what it is read as. -/
import Derived.Test.YtpaddkkfefgkfaaGreatDoorJb
set_option linter.unusedVariables false
set_option linter.unusedSimpArgs false
namespace Go.Proofs.YtpaddkkfefgkfaaGreatDoor.ps.iq
open Go.Tv Go.Ev Go.Px Go.Pp Go.Proofs.YtpaddkkfefgkfaaGreatDoor.ex
set_option maxRecDepth 100000
noncomputable section
def Tm.txt:Tm->List UInt8
 |.rg c x=>av c x
 |.ix c x sc=>av c x++[42]++zN sc
 |.nu v=>iT v
def cX:List (UInt8×Tm)->List UInt8
 |[]=>[]
 |q::l=>[32,q.1,32]++q.2.txt++cX l
def Tm.Ok:Tm->Prop
 |.rg c x=>bw c x=true
 |.ix c x sc=>bw c x=true/\cO sc=true
 |.nu v=>v<9223372036854775808
def FV (ts:List (UInt8×Tm)):Prop:=∀q∈ts,(q.1=43\/q.1=45)/\q.2.Ok
theorem Qx (ts:List (UInt8×Tm)):lt.Stop (cX ts++[93])/\zI (cX ts++[93]):=by
 cases ts with
 |nil=>exact ⟨by show lt.iX (aD 93)=false;decide,by show lt.dM (aD 93)=false;decide⟩
 |cons q ts=>exact ⟨by show lt.iX (aD 32)=false;decide,by show lt.dM (aD 32)=false;decide⟩
theorem JY:∀ts:List (UInt8×Tm),FV ts->Lx (cX ts++[93]) (di ts++[tS 93])
 |[],_=>Lx.sign (d:=93) (by simp) Lx.nil
 |
  q::ts,h=>by
  have ih:=JY ts λx hx=>h x (by simp[hx])
  obtain ⟨h1,h2⟩:=Qx ts;obtain ⟨hd,ho⟩:=h q (by simp)
  have body:Lx (q.2.txt++(cX ts++[93])) (q.2.toks++(di ts++[tS 93])):=by
   obtain ⟨d,t⟩:=q;cases t with
   |rg c x=>exact Lx.name (bT ho).1 h1 ih
   |
    ix c x sc =>
    have ho:bw c x=true/\cO sc=true:=ho;have hs:=of_decide_eq_true ho.2;have e:∀ds:List UInt8,av c x++[42]++ds++(cX ts++[93])=av c x++(42::(ds++(cX ts++[93]))):=λds=>by simp
    show Lx (av c x++[42]++zN sc++(cX ts++[93])) _;rw[e];refine Lx.name (bT ho.1).1 (by show lt.iX (aD 42)=false;decide) (Lx.sign (d:=42) (by simp) ?_)
    rcases hs with rfl|rfl|rfl|rfl
    .
     exact Lx.Zu (d:=49) (.inl ⟨rfl,rfl⟩) h2 ih
    .
     exact Lx.Zu (d:=50) (.inr (.inl ⟨rfl,rfl⟩)) h2 ih
    .
     exact Lx.Zu (d:=52) (.inr (.inr (.inl ⟨rfl,rfl⟩))) h2 ih
    exact Lx.Zu (d:=56) (.inr (.inr (.inr ⟨rfl,rfl⟩))) h2 ih
   |
    nu v =>
    have ho:v<9223372036854775808:=ho;have:=Lx.hex (u:=v) (by omega) h2 ih
    rw[i64_in (n:=((v:Nat):Int)) (by omega) (by omega)] at this
    exact this
  have e1:cX (q::ts)++[93]=32::q.1::32::(q.2.txt++(cX ts++[93])):=by simp[cX]
  have e2:di (q::ts)++[tS 93]=tS q.1::(q.2.toks++(di ts++[tS 93])):=by simp[di]
  rw[e1,e2];exact Lx.blank (Lx.sign (by rcases hd with hd|hd<;>rw[hd]<;>simp) (Lx.blank body))
theorem B7:∀(q:List Tok) (a:Int),(∀t∈q,dO t [40]=false/\dO t [41]=false/\dO t [93]=false)->dK (q++[tS 93]) a 0=some (a+q.length)
 |
  [],a,_=>by
  show dK [tS 93] a 0=_;have h1:dO (tS 93) [40]=false:=by decide
  have h2:dO (tS 93) [41]=false:=by decide
  have h3:dO (tS 93) [93]=true:=by decide
  rw[dK,h1,h2,h3];simp
 |
  t::q,a,h=>by
  obtain ⟨h1,h2,h3⟩:=h t (by simp)
  show dK (t::(q++[tS 93])) a 0=_;rw[dK,h1,h2,h3,if_neg (by simp),if_neg (by simp),if_neg (by simp),B7 q (a+1) λx hx=>h x (by simp[hx])]
  simp;omega
theorem LG (ts:List (UInt8×Tm)) (h:FV ts):∀t∈di ts,dO t [40]=false/\dO t [41]=false/\dO t [93]=false:=by
 have hN:∀w,dO (tN w) [40]=false/\dO (tN w) [41]=false/\dO (tN w) [93]=false:=λw=>⟨rfl,rfl,rfl⟩
 have hH:∀w,dO (tH w) [40]=false/\dO (tH w) [41]=false/\dO (tH w) [93]=false:=λw=>⟨rfl,rfl,rfl⟩
 have hS:∀d:UInt8,(d=42\/d=43\/d=45)->dO (tS d) [40]=false/\dO (tS d) [41]=false/\dO (tS d) [93]=false:=λd hd=>by rcases hd with rfl|rfl|rfl<;>decide
 induction ts with
 |nil=>intro t ht;cases ht
 |
  cons q ts ih =>
  intro t ht;have hd:=(h q (by simp)).1
  simp only[di,List.mem_cons,List.mem_append] at ht;rcases ht with rfl|ht|ht
  .
   exact hS _ (by rcases hd with hd|hd<;>rw[hd]<;>simp)
  .
   obtain ⟨d,u⟩:=q;cases u with
   |
    rg c x =>
    rw[List.mem_singleton.1 ht];exact hN _
   |
    ix c x sc =>
    simp only[Tm.toks,List.mem_cons,List.not_mem_nil,or_false] at ht;rcases ht with rfl|rfl|rfl
    .
     exact hN _
    .
     exact hS 42 (.inl rfl)
    exact hH _
   |nu v=>rw[List.mem_singleton.1 ht];exact hH _
  exact ih (λx hx=>h x (by simp[hx])) t ht
def wR (m:Mm) (X:List Nd):Raw:=(2,(0,0),(m.1,m.2.1,m.2.2.1,0,m.2.2.2.2),X,false)
theorem Qy {l h:List Tok} {d:UInt8} {t:Tm} {ts:List (UInt8×Tm)} {put:List Tok} {X:List Nd} {m:Mm} (hl:l=h++tS 91::(di ((d,t)::ts)++[tS 93])) (hq:FV ((d,t)::ts))
 (ha:dS FD ((d,t)::ts)=some ⟨m.1.1,m.1.2,m.2.1.1,m.2.1.2,m.2.2.1,put⟩) (hp:put≠[]) (hx:ak put 0=(X,(put.length:Int),0,0)) (hm:vI m=0) :
 eY l (h.length:Int) m.2.2.2.2=(wR m X,(l.length:Int),0,0):=by
 have hd:=(hq (d,t) (by simp)).1
 have e1:l=(h++[tS 91])++tS d::((t.toks++di ts)++[tS 93]):=by rw[hl];simp[di]
 have dJ:at? l ((h.length:Int)+1)=some (tS d):=by
  have:=sB (h++[tS 91]) ((t.toks++di ts)++[tS 93]) (tS d);rw[<-e1,List.length_append] at this;exact this
 have hlen:l.length=h.length+1+(di ((d,t)::ts)).length+1:=by rw[hl];simp;omega
 have gF:dA l ((h.length:Int)+1)=some ((h.length:Int)+1+(di ((d,t)::ts)).length):=by
  unfold dA
  have:l.drop ((h.length:Int)+1).toNat=di ((d,t)::ts)++[tS 93]:=by
   have e2:((h.length:Int)+1).toNat=(h++[tS 91]).length:=by simp
   have e3:l=(h++[tS 91])++(di ((d,t)::ts)++[tS 93]):=by rw[hl];simp
   rw[e2,e3,List.drop_left]
  rw[this];exact B7 _ _ (LG _ hq)
 have DH:aN l ((h.length:Int)+1) [43]=true\/aN l ((h.length:Int)+1) [45]=true:=by
  unfold aN;rw[dJ];have hd:d=43\/d=45:=hd;rcases hd with rfl|rfl
  .
   left;decide
  right;decide
 have hal:fI l (h.length:Int) ((h.length:Int)+1+(di ((d,t)::ts)).length) FD=okO ⟨m.1.1,m.1.2,m.2.1.1,m.2.1.2,m.2.2.1,put⟩:=by
  unfold fI;rw[if_pos DH,dJ]
  have ZG:ts.length<=(di ts).length:=by
   clear hq ha hl e1 hlen gF dJ DH
   induction ts with
   |nil=>simp
   |cons q ts ih=>simp[di];omega
  have hs2:(di ((d,t)::ts)).length=1+(t.toks.length+(di ts).length):=by simp[di];omega
  have:=Qw (l:=l) (e:=(h.length:Int)+1+(di ((d,t)::ts)).length) ts d t (h++[tS 91]) (l.length+1) FD _ (by rw[e1];simp) (by omega) (by omega) (λq hq'=>(hq q hq').1) ha
  rw[show (((h++[tS 91]).length:Nat):Int)+1=(h.length:Int)+2 by simp;omega] at this
  show (Pp.gw rp l ((h.length:Int)+1+(di ((d,t)::ts)).length) (l.length+1) [d] ((h.length:Int)+2) FD).getD _=_;rw[this];rfl
 have hnr:dY ((at? l ((h.length:Int)+1)).getD zh) [114,101,108]=false:=by rw[dJ];rfl
 unfold eY
 rw[hnr,if_neg (by simp),gF]
 simp only
 rw[hal]
 unfold sv
 have hm0:ud m.1.1 m.1.2 m.2.1.1 m.2.1.2 m.2.2.1 0 m.2.2.2.2=0:=by
  unfold vI ud at hm;unfold ud;rw[if_neg (by omega)]
  split at hm
  .
   cases hm
  exact hm
 show (if (true=false) then _ else if put=[] then _ else if (ak put 0).2.2.1≠0 then _ else if (ak put 0).2.1<(put.length:Int) then _ else if ud m.1.1 m.1.2 m.2.1.1 m.2.1.2 m.2.2.1 0 m.2.2.2.2=0 then _ else _)=_
 rw[if_neg (by simp),if_neg hp,hx]
 simp only
 rw[if_neg (λz=>z rfl),if_neg (by omega),if_pos hm0]
 unfold Pt wR
 refine Prod.ext (show ((2:Int),((0:Int),(0:Int)),((m.1.1,m.1.2),(m.2.1.1,m.2.1.2),m.2.2.1,(0:Int),m.2.2.2.2),(ak put 0).1,false)=_ by rw[hx]) (Prod.ext ?_ rfl)
 show (h.length:Int)+1+(di ((d,t)::ts)).length+1=l.length
 omega
end
end Go.Proofs.YtpaddkkfefgkfaaGreatDoor.ps.iq
