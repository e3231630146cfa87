
set_option linter.unusedVariables false
set_option linter.unusedSimpArgs false
/- Expressions: what reading them comes to, and what they are told as; trees. Expressions: whether one may be, the tokens of one, a text that is told and read again. Operands and instructions: what reading them comes to. -/

namespace Go.Px
abbrev Tok:=Int×Int×List UInt8×Int
abbrev Nd:=Int×Int×List UInt8×Int×Int
def at? {α:Type} (l:List α) (i:Int):Option α :=
 match i with
 |.ofNat n=>l[n]?
 |.negSucc _=>none
def iY (t:Tok) (s:List UInt8):Bool:=decide (t.1=4)&&decide (t.2.2.1=s)
def qx (nm:List UInt8->Bool) (t:Tok):Option Nd :=
 if t.1=2 then some (1,t.2.1,[],0,0)
 else if t.1=1/\nm t.2.2.1=true then some (2,0,t.2.2.1,0,0)
 else if iY t [36]=true then some (3,0,[],0,0)
 else if iY t [36,36]=true then some (4,0,[],0,0)
 else none
def pref (t:Tok):Option Int :=
 if iY t [45]=true then some 5 else if iY t [126]=true then some 6 else if iY t [43]=true then some 0 else none
def aho:List (List UInt8×Int×Int):=[([42],7,6),([47],8,6),([37],9,6),([43],10,5),([45],11,5),([60,60],12,4),([62,62],13,4),([38],14,3),([94],15,2),([124],16,1)]
def eI (s:List UInt8):List (List UInt8×Int×Int)->Int×Int
 |[]=>(0,0)
 |q::l=>if s=q.1 then q.2 else eI s l
def bin (t:Tok):Int×Int:=if t.1=4 then eI t.2.2.1 aho else (0,0)
structure St where
 a:Int
 d:Int
 x:List Nd
 e:Int
 f:Int
abbrev gp:=Option (Bool×St)
def qm (st:St) (e f:Int):gp:=some (false,{ st with e:=e,f:=f })
def gb (st:St) (n:Nd) (f:Int) (k:St->gp):gp:=if st.x.length=200 then qm st 3 f else k { st with x:=st.x++[n] }
def iZ (st:St) (k:St->gp):gp:=if st.d=50 then qm st 3 st.a else k { st with d:=st.d+1,a:=st.a+1 }
def xX (r:gp) (k:St->gp):gp :=
 match r with
 |some (true,st)=>k st
 |some (false,st)=>some (false,st)
 |none=>none
section
variable (nm:List UInt8->Bool) (l:List Tok)
def dJ (rec:Int->St->gp) (st:St) (k:St->gp):gp :=
 match at? l st.a with
 |none=>qm st 4 st.a
 |
  some t=>match qx nm t with
  |some n=>gb { st with a:=st.a+1 } n st.a k
  |
   none=>match pref t with
   |some op=>iZ st λs1=>xX (rec 7 s1) λs2 =>
    if op=0 then k { s2 with d:=s2.d-1 } else gb { s2 with d:=s2.d-1 } (op,0,[],s2.x.length-1,0) st.a k
   |
    none=>if iY t [40]=true then iZ st λs1=>xX (rec 1 s1) λs2=>match at? l s2.a with
     |none=>qm s2 4 s2.a
     |some c=>if iY c [41]=true then k { s2 with d:=s2.d-1,a:=s2.a+1 } else qm s2 4 s2.a
    else qm st 4 st.a
def bK (rec:Int->St->gp) (str:Int):Nat->St->gp
 |0,_=>none
 |
  n+1,st=>match at? l st.a with
  |none=>some (true,st)
  |some t=>if (bin t).2<str then some (true,st) else
   xX (rec ((bin t).2+1) { st with a:=st.a+1 }) λs2=>gb s2 ((bin t).1,0,[],st.x.length-1,s2.x.length-1) st.a (bK rec str n)
def ay:Nat->Int->St->gp
 |0=>λ_ _=>none
 |k+1=>λstr st=>dJ nm l (ay k) st (bK l (ay k) str (l.length+1))
end
inductive T where
 |leaf (n:Nd)
 |un (op:Int) (a:T)
 |bi (op:Int) (a b:T)
def T.size:T->Nat
 |.leaf _=>1
 |.un _ a=>a.size+1
 |.bi _ a b=>a.size+b.size+1
theorem T.size_pos:∀t:T,0<t.size
 |.leaf _=>Nat.zero_lt_one
 |.un _ _=>Nat.succ_pos _
 |.bi _ _ _=>Nat.succ_pos _
def T.post (b:Nat):T->List Nd
 |.leaf n=>[n]
 |.un op a=>a.post b++[(op,0,[],((b+a.size:Nat):Int)-1,0)]
 |.bi op u v=>u.post b++(v.post (b+u.size)++[(op,0,[],((b+u.size:Nat):Int)-1,((b+u.size+v.size:Nat):Int)-1)])
theorem T.dK:∀(t:T) (b:Nat),(t.post b).length=t.size
 |.leaf _,_=>rfl
 |.un _ a,b=>by simp[T.post,T.size,a.dK b]
 |.bi _ u v,b=>by simp[T.post,T.size,u.dK b,v.dK (b+u.size)];omega
def BH (nm:List UInt8->Bool) (n:Nd):Prop :=
 (∃k,n=(1,k,[],0,0))\/(∃s,n=(2,0,s,0,0)/\nm s=true)\/n=(3,0,[],0,0)\/n=(4,0,[],0,0)
def T.ok (nm:List UInt8->Bool):T->Prop
 |.leaf n=>BH nm n
 |.un op a=>(op=5\/op=6)/\a.ok nm
 |.bi op u v=>7<=op/\op<=16/\u.ok nm/\v.ok nm
def bt (op:Int):List UInt8 :=
 if op=3 then [36] else if op=4 then [36,36] else if op=5\/op=11 then [45] else if op=6 then [126] else if op=7 then [42] else if op=8 then [47]
 else if op=9 then [37] else if op=10 then [43] else if op=12 then [60,60] else if op=13 then [62,62] else if op=14 then [38] else if op=15 then [94] else [124]
def dN (s:List UInt8):Tok:=(4,0,s,0)
def zK (n:Nd):Tok:=if n.1=1 then (2,n.2.1,[],0) else if n.1=2 then (1,0,n.2.2.1,0) else dN (bt n.1)
def T.toks (w:Bool):T->List Tok
 |.leaf n=>[zK n]
 |.un op a=>dN (bt op)::a.toks false
 |.bi op u v=>(if w then [] else [dN [40]])++(u.toks false++(dN (bt op)::(v.toks false++(if w then [] else [dN [41]]))))
theorem kf {α:Type} (p r:List α) (c:α):at? (p++c::r) ((p.length:Nat):Int)=some c:=by
 show (p++c::r)[p.length]? = some c
 simp
theorem ab5 {α:Type} (p:List α):at? p ((p.length:Nat):Int)=none:=by
 show p[p.length]? = none
 simp
def ak2 (t:Tok):Prop:=(bin t).2=0
theorem IA (op:Int) (h7:7<=op) (Tb:op<=16):(bin (dN (bt op))).1=op/\1<=(bin (dN (bt op))).2/\(bin (dN (bt op))).2<=6:=by
 obtain rfl|rfl|rfl|rfl|rfl|rfl|rfl|rfl|rfl|rfl:op=7\/op=8\/op=9\/op=10\/op=11\/op=12\/op=13\/op=14\/op=15\/op=16:=by omega
 all_goals decide
theorem D5:(bin (dN [41])).2=0:=by decide
def K8 (r:gp):Prop:=∃st,r=some (false,st)/\st.e=3
theorem zL {st:St} {n:Nd} {f:Int} {k:St->gp}:K8 (gb st n f k)\/gb st n f k=k { st with x:=st.x++[n] }:=by
 unfold gb
 split
 .
  exact .inl ⟨_,rfl,rfl⟩
 exact .inr rfl
theorem Nm {st:St} {k:St->gp}:K8 (iZ st k)\/iZ st k=k { st with d:=st.d+1,a:=st.a+1 }:=by
 unfold iZ
 split
 .
  exact .inl ⟨_,rfl,rfl⟩
 exact .inr rfl
theorem go_long {r:gp} {k:St->gp} (h:K8 r):K8 (xX r k):=by
 obtain ⟨st,rfl,h⟩:=h
 exact ⟨st,rfl,h⟩
variable {nm:List UInt8->Bool}
theorem Pq {n:Nd} (h:BH nm n):qx nm (zK n)=some n:=by
 rcases h with ⟨k,rfl⟩|⟨s,rfl,hs⟩|rfl|rfl
 .
  rfl
 .
  have e:zK (2,0,s,0,0)=(1,0,s,0):=rfl;rw[e];unfold qx;rw[if_neg (show ¬(1:Int)=2 by decide),if_pos ⟨rfl,hs⟩]
 .
  rfl
 rfl
theorem Pr (op:Int) (h:op=5\/op=6):qx nm (dN (bt op))=none/\pref (dN (bt op))=some op:=by
 rcases h with rfl|rfl<;>exact ⟨rfl,rfl⟩
theorem Tc:qx nm (dN [40])=none/\pref (dN [40])=none/\iY (dN [40]) [40]=true:=⟨rfl,rfl,by decide⟩
def T.need:T->Nat
 |.leaf _=>0
 |.un _ a=>a.need+1
 |.bi _ u v=>max u.need v.need+2
def ZT (str:Int) (tO:List Tok):Prop:=match tO with
 |[]=>True
 |t::_=>(bin t).2<str
theorem iC {l:List Tok} {rec:Int->St->gp} {str:Int} {n:Nat} {st:St} {p tO:List Tok} (hl:l=p++tO) (ha:st.a=(p.length:Nat)) (hs:ZT str tO):bK l rec str (n+1) st=some (true,st):=by
 unfold bK
 cases tO with
 |nil=>rw[ha,hl,List.append_nil,ab5]
 |
  cons t r =>
  rw[ha,hl,kf];simp only;rw[if_pos (show (bin t).2<str from hs)]
theorem m9:∀(t:T),t.ok nm->∀(l p tO:List Tok) (k:Nat) (st:St) (K:St->gp),l=p++(t.toks false++tO)->st.a=(p.length:Nat)->t.need<=k ->
 K8 (dJ nm l (ay nm l k) st K)\/dJ nm l (ay nm l k) st K=K { st with a:=((p.length+(t.toks false).length:Nat):Int),x:=st.x++t.post st.x.length }
 |
  .leaf n,hok,l,p,tO,k,st,K,hl,ha,hk=>by
  have e:dJ nm l (ay nm l k) st K=gb { st with a:=st.a+1 } n st.a K:=by
   unfold dJ;have:at? l st.a=some (zK n):=by rw[ha,hl];exact kf p _ _
   rw[this];simp only[Pq hok]
  rw[e];rcases zL (st:={ st with a:=st.a+1 }) (n:=n) (f:=st.a) (k:=K) with h|h
  .
   exact .inl h
  right
  rw[h,ha];rfl
 |
  .un op a,⟨hop,hok⟩,l,p,tO,k,st,K,hl,ha,hk=>by
  obtain ⟨k,rfl⟩:∃k',k=k'+1:=⟨k-1,by simp only[T.need] at hk;omega⟩
  obtain ⟨h1,h2⟩:=Pr (nm:=nm) op hop;have qB:l=(p++[dN (bt op)])++(a.toks false++tO):=by rw[hl];simp[T.toks]
  have e:dJ nm l (ay nm l (k+1)) st K=iZ st λs1=>xX (ay nm l (k+1) 7 s1) λs2 =>
   if op=0 then K { s2 with d:=s2.d-1 } else gb { s2 with d:=s2.d-1 } (op,0,[],s2.x.length-1,0) st.a K:=by
   unfold dJ;have:at? l st.a=some (dN (bt op)):=by rw[ha,hl];exact kf p _ _
   rw[this];simp only[h1,h2]
  rw[e]
  rcases Nm (st:=st) (k:=λs1=>xX (ay nm l (k+1) 7 s1) λs2 =>
   if op=0 then K { s2 with d:=s2.d-1 } else gb { s2 with d:=s2.d-1 } (op,0,[],s2.x.length-1,0) st.a K) with h|h
  .
   exact .inl h
  rw[h];have ih:=m9 a hok l (p++[dN (bt op)]) tO k { st with d:=st.d+1,a:=st.a+1 } (bK l (ay nm l k) 7 (l.length+1)) qB (by simp[ha]) (by simp only[T.need] at hk;omega)
  have hc:ay nm l (k+1) 7 { st with d:=st.d+1,a:=st.a+1 }=dJ nm l (ay nm l k) { st with d:=st.d+1,a:=st.a+1 } (bK l (ay nm l k) 7 (l.length+1)):=rfl
  rw[hc];rcases ih with ih|ih
  .
   exact .inl (go_long ih)
  rw[ih,iC (p:=p++dN (bt op)::a.toks false) (tO:=tO) (by rw[hl];simp[T.toks]) (by simp;omega) (by
   unfold ZT;split
   .
    trivial
   rename_i t r
   have:∀(s:List UInt8) (m:List (List UInt8×Int×Int)),(∀q∈m,q.2.2<7)->(eI s m).2<7:=by
    intro s m
    induction m with
    |nil=>intro _;show (0:Int)<7;decide
    |
     cons q m ihm =>
     intro hm;unfold eI;split
     .
      exact hm q (List.mem_cons_self ..)
     exact ihm λx hx=>hm x (List.mem_cons_of_mem _ hx)
   unfold bin;split
   .
    exact this _ _ (by decide)
   decide)]
  unfold xX;simp only;rw[if_neg (by omega)]
  rcases zL (st:={ st with d:=st.d+1-1,a:=(((p++[dN (bt op)]).length+(a.toks false).length:Nat):Int),x:=st.x++a.post st.x.length }) (n:=(op,0,[],((st.x++a.post st.x.length).length:Int)-1,0)) (f:=st.a) (k:=K) with h|h
  .
   exact .inl h
  right
  rw[h]
  congr 1
  simp only[St.mk.injEq,true_and,and_true];refine ⟨?_,by omega,?_⟩
  .
   simp[T.toks];omega
  simp[T.post,T.dK]
 |
  .bi op u v,⟨h7,Tb,hu,hv⟩,l,p,tO,k,st,K,hl,ha,hk=>by
  obtain ⟨k,rfl⟩:∃k',k=k'+2:=⟨k-2,by simp only[T.need] at hk;omega⟩
  obtain ⟨o1,o2,o3⟩:=Tc (nm:=nm);obtain ⟨b1,b2,b3⟩:=IA op h7 Tb;have hku:u.need<=k+1:=by simp only[T.need] at hk;omega
  have hkv:v.need<=k:=by simp only[T.need] at hk;omega
  have J0:l=(p++[dN [40]])++(u.toks false++(dN (bt op)::(v.toks false++(dN [41]::tO)))):=by rw[hl];simp[T.toks]
  have e:dJ nm l (ay nm l (k+2)) st K=iZ st λs1=>xX (ay nm l (k+2) 1 s1) λs2=>match at? l s2.a with
   |none=>qm s2 4 s2.a
   |some c=>if iY c [41]=true then K { s2 with d:=s2.d-1,a:=s2.a+1 } else qm s2 4 s2.a:=by
   unfold dJ;have:at? l st.a=some (dN [40]):=by rw[ha,J0];simp only[List.append_assoc,List.singleton_append];exact kf p _ _
   rw[this];simp only[o1,o2,o3,if_true]
  rw[e]
  rcases Nm (st:=st) (k:=λs1=>xX (ay nm l (k+2) 1 s1) λs2=>match at? l s2.a with
   |none=>qm s2 4 s2.a
   |some c=>if iY c [41]=true then K { s2 with d:=s2.d-1,a:=s2.a+1 } else qm s2 4 s2.a) with h|h
  .
   exact .inl h
  rw[h];have hc:ay nm l (k+2) 1 { st with d:=st.d+1,a:=st.a+1 }=dJ nm l (ay nm l (k+1)) { st with d:=st.d+1,a:=st.a+1 } (bK l (ay nm l (k+1)) 1 (l.length+1)):=rfl
  rw[hc];rcases m9 u hu l (p++[dN [40]]) (dN (bt op)::(v.toks false++(dN [41]::tO))) (k+1) { st with d:=st.d+1,a:=st.a+1 } (bK l (ay nm l (k+1)) 1 (l.length+1)) J0 (by simp[ha]) hku with ih|ih
  .
   exact .inl (go_long ih)
  rw[ih]
  -- the operator
  obtain ⟨m,hm⟩:∃m,l.length=m+1:=⟨l.length-1,by rw[J0];simp;omega⟩
  have cA:at? l (((p++[dN [40]]).length+(u.toks false).length:Nat):Int)=some (dN (bt op)):=by
   have:l=((p++[dN [40]])++u.toks false)++(dN (bt op)::(v.toks false++(dN [41]::tO))):=by rw[J0];simp
   rw[this,<-List.length_append];exact kf _ _ _
  rw[hm]
  have step:bK l (ay nm l (k+1)) 1 (m+1+1) { st with d:=st.d+1,a:=(((p++[dN [40]]).length+(u.toks false).length:Nat):Int),x:=st.x++u.post st.x.length } =
   xX (ay nm l (k+1) ((bin (dN (bt op))).2+1) { st with d:=st.d+1,a:=(((p++[dN [40]]).length+(u.toks false).length:Nat):Int)+1,x:=st.x++u.post st.x.length }) λs2 =>
    gb s2 ((bin (dN (bt op))).1,0,[],((st.x++u.post st.x.length).length:Int)-1,s2.x.length-1) (((p++[dN [40]]).length+(u.toks false).length:Nat):Int) (bK l (ay nm l (k+1)) 1 (m+1)):=by
   conv=>lhs;unfold bK
   simp only[cA];rw[if_neg (by omega)]
  rw[step,b1];have hc2:∀s st',ay nm l (k+1) s st'=dJ nm l (ay nm l k) st' (bK l (ay nm l k) s (l.length+1)):=λ_ _=>rfl
  rw[hc2];have qB:l=((p++[dN [40]])++(u.toks false++[dN (bt op)]))++(v.toks false++(dN [41]::tO)):=by rw[J0];simp
  rcases m9 v hv l ((p++[dN [40]])++(u.toks false++[dN (bt op)])) (dN [41]::tO) k { st with d:=st.d+1,a:=(((p++[dN [40]]).length+(u.toks false).length:Nat):Int)+1,x:=st.x++u.post st.x.length } (bK l (ay nm l k) ((bin (dN (bt op))).2+1) (l.length+1)) qB (by simp;omega) hkv with ih2|ih2
  .
   exact .inl (go_long (go_long ih2))
  have hl3:l=((p++[dN [40]])++(u.toks false++(dN (bt op)::v.toks false)))++(dN [41]::tO):=by rw[J0];simp
  rw[ih2,iC (p:=(p++[dN [40]])++(u.toks false++(dN (bt op)::v.toks false))) (tO:=dN [41]::tO) hl3 (by simp;omega) (by show (bin (dN [41])).2<_;rw[D5];omega)]
  simp only[xX];have hx:(st.x++u.post st.x.length).length=st.x.length+u.size:=by rw[List.length_append,T.dK]
  rcases zL (st:={ st with d:=st.d+1,a:=((((p++[dN [40]])++(u.toks false++[dN (bt op)])).length+(v.toks false).length:Nat):Int),x:=st.x++u.post st.x.length++v.post (st.x++u.post st.x.length).length })
   (n:=(op,0,[],((st.x++u.post st.x.length).length:Int)-1,((st.x++u.post st.x.length++v.post (st.x++u.post st.x.length).length).length:Int)-1)) (f:=(((p++[dN [40]]).length+(u.toks false).length:Nat):Int)) (k:=bK l (ay nm l (k+1)) 1 (m+1)) with h2|h2
  .
   exact .inl (go_long h2)
  rw[h2,iC (p:=(p++[dN [40]])++(u.toks false++(dN (bt op)::v.toks false))) (tO:=dN [41]::tO) hl3 (by simp;omega) (by show (bin (dN [41])).2<_;rw[D5];omega)]
  simp only[xX]
  have ak3:at? l ((((p++[dN [40]])++(u.toks false++[dN (bt op)])).length+(v.toks false).length:Nat):Int)=some (dN [41]):=by
   have e1:((p++[dN [40]])++(u.toks false++[dN (bt op)])).length+(v.toks false).length=((p++[dN [40]])++(u.toks false++(dN (bt op)::v.toks false))).length:=by simp;omega
   rw[e1,hl3];exact kf _ _ _
  rw[ak3];simp only;rw[if_pos (by decide)]
  right
  congr 1
  simp only[St.mk.injEq,true_and,and_true];refine ⟨?_,by omega,?_⟩
  .
   simp[T.toks];omega
  simp only[T.post,hx,List.append_assoc,List.length_append,T.dK]
  congr 3
  simp;omega
theorem dL {α:Type} {l:List α} {i:Int} {c:α} (h:at? l i=some c):0<=i/\i<(l.length:Int):=by
 unfold at? at h
 split at h
 .
  rename_i n;have:=(List.getElem?_eq_some_iff.1 h).1;simp;omega
 cases h
theorem Xt {t:Tok} {n:Nd} (h:qx nm t=some n):BH nm n:=by
 unfold qx at h
 split at h
 .
  cases h;exact .inl ⟨_,rfl⟩
 split at h
 .
  rename_i h2;cases h;exact .inr (.inl ⟨_,rfl,h2.2⟩)
 split at h
 .
  cases h;exact .inr (.inr (.inl rfl))
 split at h
 .
  cases h;exact .inr (.inr (.inr rfl))
 cases h
theorem Xu {t:Tok} {op:Int} (h:pref t=some op):op=0\/op=5\/op=6:=by
 unfold pref at h
 split at h
 .
  cases h;omega
 split at h
 .
  cases h;omega
 split at h
 .
  cases h;omega
 cases h
theorem Td {t:Tok} (h:1<=(bin t).2):7<=(bin t).1/\(bin t).1<=16/\(bin t).2<=6:=by
 have key:∀(s:List UInt8) (m:List (List UInt8×Int×Int)),(∀q∈m,7<=q.2.1/\q.2.1<=16/\q.2.2<=6)->1<=(eI s m).2->7<=(eI s m).1/\(eI s m).1<=16/\(eI s m).2<=6:=by
  intro s m
  induction m with
  |nil=>intro _ h;exact absurd h (by show ¬(1:Int)<=0;decide)
  |
   cons q m ih =>
   intro hm h;unfold eI at h ⊢;split
   .
    exact hm q (List.mem_cons_self ..)
   rename_i hq;rw[if_neg hq] at h;exact ih (λx hx=>hm x (List.mem_cons_of_mem _ hx)) h
 unfold bin at h ⊢
 split
 .
  rename_i ht;rw[if_pos ht] at h;exact key _ _ (by decide) h
 rename_i ht
 rw[if_neg ht] at h
 exact absurd h (by show ¬(1:Int)<=0;decide)
def Grown (nm:List UInt8->Bool) (l:List Tok) (st st':St):Prop :=
 ∃t:T,t.ok nm/\st'.x=st.x++t.post st.x.length/\st.a<st'.a/\st'.a<=(l.length:Int)/\st'.d=st.d/\st'.e=st.e/\st'.f=st.f/\st'.x.length<=200
theorem go_inv {r:gp} {k:St->gp} {st':St} (h:xX r k=some (true,st')):∃s,r=some (true,s)/\k s=some (true,st'):=by
 unfold xX at h
 split at h
 .
  exact ⟨_,rfl,h⟩
 .
  cases h
 cases h
theorem BI {st:St} {n:Nd} {f:Int} {k:St->gp} {st':St} (h:gb st n f k=some (true,st')):st.x.length≠200/\k { st with x:=st.x++[n] }=some (true,st'):=by
 unfold gb at h
 split at h
 .
  cases h
 rename_i h1;exact ⟨h1,h⟩
theorem IB {st:St} {k:St->gp} {st':St} (h:iZ st k=some (true,st')):k { st with d:=st.d+1,a:=st.a+1 }=some (true,st'):=by
 unfold iZ at h
 split at h
 .
  cases h
 exact h
theorem BJ {l:List Tok} {rec:Int->St->gp} (hrec:∀s st st',st.x.length<=200->st.a<=(l.length:Int)->rec s st=some (true,st')->Grown nm l st st') {str:Int} (h1:1<=str):∀(n:Nat) (st0 st st':St),Grown nm l st0 st->bK l rec str n st=some (true,st')->Grown nm l st0 st'
 |0,_,_,_,_,h=>by cases h
 |
  n+1,st0,st,st',hg,h=>by
  unfold bK at h;split at h
  .
   cases h;exact hg
  rename_i tok cA;split at h
  .
   cases h;exact hg
  rename_i apu;obtain ⟨s2,h2,h3⟩:=go_inv h;obtain ⟨h4,h5⟩:=BI h3;obtain ⟨t,k1,k2,k3,k4,k5,k6,k7,k8⟩:=hg;have hlt:=dL cA;obtain ⟨u,m1,m2,m3,m4,m5,m6,m7,m8⟩:=hrec _ { st with a:=st.a+1 } _ k8 (by show st.a+1<=_;omega) h2
  have hb:=Td (t:=tok) (by omega)
  refine BJ hrec h1 n st0 { s2 with x:=s2.x++[((bin tok).1,0,[],(st.x.length:Int)-1,(s2.x.length:Int)-1)] } st' ?_ h5
  refine ⟨.bi (bin tok).1 t u,⟨hb.1,hb.2.1,k1,m1⟩,?_,by show st0.a<s2.a;have:st.a+1<s2.a:=m3;omega,m4,by show s2.d=_;rw[m5];exact k5,by show s2.e=_;rw[m6];exact k6,by show s2.f=_;rw[m7];exact k7,?_⟩
  .
   show s2.x++[_]=_;have e2:s2.x=st.x++u.post st.x.length:=m2;have el:st.x.length=st0.x.length+t.size:=by rw[k2,List.length_append,T.dK]
   have el2:s2.x.length=st0.x.length+t.size+u.size:=by rw[e2,List.length_append,T.dK,el]
   rw[el2,e2,el,k2];simp only[T.post,List.append_assoc]
  show (s2.x++[_]).length<=200;have:s2.x.length<=200:=m8;simp;omega
theorem fK (l:List Tok):∀(k:Nat) (str:Int) (st st':St),1<=str->st.x.length<=200->st.a<=(l.length:Int)->ay nm l k str st=some (true,st')->Grown nm l st st'
 |0,_,_,_,_,_,_,h=>by cases h
 |
  k+1,str,st,st',hs,hx,ha,h=>by
  have h:dJ nm l (ay nm l k) st (bK l (ay nm l k) str (l.length+1))=some (true,st'):=h
  have Nn:∀s1,Grown nm l st s1->bK l (ay nm l k) str (l.length+1) s1=some (true,st')->Grown nm l st st':=λs1 hg hm =>
   BJ (rec:=λs st=>if 1<=s then ay nm l k s st else none) (λs a b hxa haa hr=>by
    split at hr
    .
     rename_i h1;exact fK l k s a b h1 hxa haa hr
    cases hr) hs (l.length+1) st s1 st' hg (by
    have:∀n s,bK l (λs st=>if 1<=s then ay nm l k s st else none) str n s=bK l (ay nm l k) str n s:=by
     intro n
     induction n with
     |zero=>intro s;rfl
     |
      succ n ih =>
      intro s;unfold bK;split
      .
       rfl
      split
      .
       rfl
      rename_i tok _ hlt;rw[if_pos (by omega)]
      congr 1
      funext s2
      rw[show bK l (λs st=>if 1<=s then ay nm l k s st else none) str n=bK l (ay nm l k) str n from funext ih]
    rw[this];exact hm)
  unfold dJ at h;split at h
  .
   cases h
  rename_i tok cA;have hlt:=dL cA;split at h
  .
   rename_i n hn;obtain ⟨h4,h5⟩:=BI h;refine Nn { st with a:=st.a+1,x:=st.x++[n] } ⟨.leaf n,Xt hn,rfl,by show st.a<st.a+1;omega,by show st.a+1<=_;omega,rfl,rfl,rfl,?_⟩ h5
   show (st.x++[n]).length<=200;have:st.x.length≠200:=h4;simp;omega
  split at h
  .
   rename_i op hp;have h:=IB h;obtain ⟨s2,h2,h3⟩:=go_inv h;obtain ⟨u,m1,m2,m3,m4,m5,m6,m7,m8⟩:=fK l k 7 { st with d:=st.d+1,a:=st.a+1 } s2 (by decide) hx (by show st.a+1<=_;omega) h2
   have m3:st.a+1<s2.a:=m3;have m5:s2.d=st.d+1:=m5;split at h3
   .
    refine Nn { s2 with d:=s2.d-1 } ⟨u,m1,m2,by show st.a<s2.a;omega,m4,by show s2.d-1=st.d;omega,m6,m7,m8⟩ h3
   rename_i hop;obtain ⟨h4,h5⟩:=BI h3;have h4:s2.x.length≠200:=h4;refine Nn { s2 with d:=s2.d-1,x:=s2.x++[(op,0,[],(s2.x.length:Int)-1,0)] } ⟨.un op u,⟨by have:=Xu hp;omega,m1⟩,?_,by show st.a<s2.a;omega,m4,by show s2.d-1=st.d;omega,m6,m7,?_⟩ h5
   .
    show s2.x++[_]=_;have e2:s2.x=st.x++u.post st.x.length:=m2;rw[e2];simp[T.post,T.dK]
   show (s2.x++[_]).length<=200;have:s2.x.length<=200:=m8;simp;omega
  split at h
  .
   have h:=IB h;obtain ⟨s2,h2,h3⟩:=go_inv h;obtain ⟨u,m1,m2,m3,m4,m5,m6,m7,m8⟩:=fK l k 1 { st with d:=st.d+1,a:=st.a+1 } s2 (by decide) hx (by show st.a+1<=_;omega) h2
   have m3:st.a+1<s2.a:=m3;have m5:s2.d=st.d+1:=m5;split at h3
   .
    cases h3
   rename_i c hc;have ab6:=dL hc;split at h3
   .
    exact Nn { s2 with d:=s2.d-1,a:=s2.a+1 } ⟨u,m1,m2,by show st.a<s2.a+1;omega,by show s2.a+1<=_;omega,by show s2.d-1=st.d;omega,m6,m7,m8⟩ h3
   cases h3
  cases h
theorem go_some {r:gp} {k:St->gp} (h:∃x,r=some x) (hk:∀s,r=some (true,s)->∃y,k s=some y):∃y,xX r k=some y:=by
 obtain ⟨⟨b,s⟩,rfl⟩:=h
 cases b with
 |true=>exact hk s rfl
 |false=>exact ⟨_,rfl⟩
theorem xY {st:St} {n:Nd} {f:Int} {k:St->gp} (hk:st.x.length≠200->∃y,k { st with x:=st.x++[n] }=some y):∃y,gb st n f k=some y:=by
 unfold gb
 split
 .
  exact ⟨_,rfl⟩
 rename_i h;exact hk h
theorem D6 {st:St} {k:St->gp} (hk:∃y,k { st with d:=st.d+1,a:=st.a+1 }=some y):∃y,iZ st k=some y:=by
 unfold iZ
 split
 .
  exact ⟨_,rfl⟩
 exact hk
theorem nJ (l:List Tok):∀(k:Nat) (str:Int) (st:St),1<=str->st.x.length<=200->0<=st.a->st.a<=(l.length:Int)->(l.length:Int)-st.a<k->∃r,ay nm l k str st=some r
 |0,_,_,_,_,_,_,h=>by omega
 |
  k+1,str,st,hs,hx,h0,ha,hk=>by
  have more:∀(n:Nat) (s:St),s.x.length<=200->st.a<s.a->s.a<=(l.length:Int)->(l.length:Int)-s.a<n->∃r,bK l (ay nm l k) str n s=some r:=by
   intro n
   induction n with
   |zero=>intro s _ _ _ h;omega
   |
    succ n ih =>
    intro s hsx hsa hsl hn;unfold bK;split
    .
     exact ⟨_,rfl⟩
    rename_i tok cA;have hlt:=dL cA;split
    .
     exact ⟨_,rfl⟩
    refine go_some (nJ l k _ { s with a:=s.a+1 } (by omega) hsx (by show 0<=s.a+1;omega) (by show s.a+1<=_;omega) (by show _-(s.a+1)<_;omega)) λs2 h2=>xY λhne=>?_
    obtain ⟨u,m1,m2,m3,m4,m5,m6,m7,m8⟩:=fK l k _ { s with a:=s.a+1 } s2 (by omega) hsx (by show s.a+1<=_;omega) h2
    have m3:s.a+1<s2.a:=m3;exact ih _ (by show (s2.x++[_]).length<=200;simp;omega) (by show st.a<s2.a;omega) m4 (by show _-s2.a<_;omega)
  show ∃r,dJ nm l (ay nm l k) st (bK l (ay nm l k) str (l.length+1))=some r;unfold dJ;split
  .
   exact ⟨_,rfl⟩
  rename_i tok cA;have hlt:=dL cA;split
  .
   exact xY λhne=>more _ _ (by show (st.x++[_]).length<=200;have:st.x.length≠200:=hne;simp;omega) (by show st.a<st.a+1;omega) (by show st.a+1<=_;omega) (by show _-(st.a+1)<_;omega)
  split
  .
   refine D6 (go_some (nJ l k 7 { st with d:=st.d+1,a:=st.a+1 } (by decide) hx (by show 0<=st.a+1;omega) (by show st.a+1<=_;omega) (by show _-(st.a+1)<_;omega)) λs2 h2=>?_)
   obtain ⟨u,m1,m2,m3,m4,m5,m6,m7,m8⟩:=fK l k _ { st with d:=st.d+1,a:=st.a+1 } s2 (by decide) hx (by show st.a+1<=_;omega) h2
   have m3:st.a+1<s2.a:=m3;split
   .
    exact more _ _ m8 (by show st.a<s2.a;omega) m4 (by show _-s2.a<_;omega)
   exact xY λhne=>more _ _ (by show (s2.x++[_]).length<=200;have:s2.x.length≠200:=hne;simp;omega) (by show st.a<s2.a;omega) m4 (by show _-s2.a<_;omega)
  split
  .
   refine D6 (go_some (nJ l k 1 { st with d:=st.d+1,a:=st.a+1 } (by decide) hx (by show 0<=st.a+1;omega) (by show st.a+1<=_;omega) (by show _-(st.a+1)<_;omega)) λs2 h2=>?_)
   obtain ⟨u,m1,m2,m3,m4,m5,m6,m7,m8⟩:=fK l k _ { st with d:=st.d+1,a:=st.a+1 } s2 (by decide) hx (by show st.a+1<=_;omega) h2
   have m3:st.a+1<s2.a:=m3;split
   .
    exact ⟨_,rfl⟩
   rename_i c hc;have ab6:=dL hc;split
   .
    exact more _ _ m8 (by show st.a<s2.a+1;omega) (by show s2.a+1<=_;omega) (by show _-(s2.a+1)<_;omega)
   exact ⟨_,rfl⟩
  exact ⟨_,rfl⟩
end Go.Px

namespace Go.Px
variable {nm:List UInt8->Bool}
def bU (nm:List UInt8->Bool) (n:Nd):Bool :=
 decide (1<=n.1)&&decide (n.1<=16)&&(decide (n.1=1)||decide (n.2.1=0))&&(if n.1=2 then nm n.2.2.1 else decide (n.2.2.1=[]))&&(!decide (n.1<=4)||decide (n.2.2.2.1=0))&&(decide (6<n.1)||decide (n.2.2.2.2=0))
def yR (i:Int) (n:Nd) (o:List Int):Option (List Int) :=
 if n.1<=4 then some (o++[i])
 else if n.1<=6 then (if o.length<1\/o[o.length-1]? ≠ some n.2.2.2.1 then none else some (o.take (o.length-1)++[i]))
 else (if o.length<2\/o[o.length-2]? ≠ some n.2.2.2.1\/o[o.length-1]? ≠ some n.2.2.2.2 then none else some (o.take (o.length-2)++[i]))
def nL (nm:List UInt8->Bool):Nat->List Nd->List Int->Int
 |_,[],o=>if o.length=1 then 0 else 2
 |
  i,n::r,o=>if bU nm n=true then (match yR i n o with
  |some o'=>nL nm (i+1) r o'
  |none=>2) else 2
def iO (nm:List UInt8->Bool) (x:List Nd):Int:=if 200<x.length then 3 else nL nm 0 x []
def qo:List T->Nat
 |[]=>0
 |t::r=>qo r+t.size
def rK:List T->List Nd
 |[]=>[]
 |t::r=>rK r++t.post (qo r)
def eP:List T->List Int
 |[]=>[]
 |t::r=>eP r++[((qo r+t.size:Nat):Int)-1]
theorem x6:∀r:List T,(rK r).length=qo r
 |[]=>rfl
 |t::r=>by rw[rK,List.length_append,x6 r,T.dK,qo]
theorem x7:∀r:List T,(eP r).length=r.length
 |[]=>rfl
 |t::r=>by rw[eP,List.length_append,x7 r];rfl
theorem ID {n:Nd} (h:bU nm n=true) (h4:n.1<=4):BH nm n:=by
 obtain ⟨op,k,s,L,R⟩:=n
 simp only[bU,Bool.and_eq_true,Bool.or_eq_true,decide_eq_true_eq,Bool.not_eq_true',decide_eq_false_iff_not] at h
 simp only at h4
 obtain ⟨⟨⟨⟨⟨h1,h2⟩,h3⟩,h5⟩,h6⟩,h7⟩:=h
 have hL:L=0:=by omega
 have hR:R=0:=by omega
 subst hL;subst hR
 obtain rfl|rfl|rfl|rfl:op=1\/op=2\/op=3\/op=4:=by omega
 .
  rw[if_neg (by decide)] at h5
  have:s=[]:=of_decide_eq_true h5;subst this;exact .inl ⟨k,rfl⟩
 .
  have:k=0:=by omega
  subst this;rw[if_pos rfl] at h5;exact .inr (.inl ⟨s,rfl,h5⟩)
 .
  have:k=0:=by omega
  subst this;rw[if_neg (by decide)] at h5
  have:s=[]:=of_decide_eq_true h5;subst this;exact .inr (.inr (.inl rfl))
 have:k=0:=by omega
 subst this
 rw[if_neg (by decide)] at h5
 have:s=[]:=of_decide_eq_true h5
 subst this;exact .inr (.inr (.inr rfl))
theorem Pu {n:Nd} (h:bU nm n=true) (h4:¬n.1<=4):n.2.1=0/\n.2.2.1=[]/\n.1<=16/\(n.1<=6->n.2.2.2.2=0):=by
 obtain ⟨op,k,s,L,R⟩:=n
 simp only[bU,Bool.and_eq_true,Bool.or_eq_true,decide_eq_true_eq,Bool.not_eq_true',decide_eq_false_iff_not] at h
 simp only at h4 ⊢
 obtain ⟨⟨⟨⟨⟨h1,h2⟩,h3⟩,h5⟩,h6⟩,h7⟩:=h
 rw[if_neg (by omega)] at h5
 exact ⟨by omega,of_decide_eq_true h5,h2,λh=>by omega⟩
theorem BM (o:List Int) (a:Int):(o++[a])[(o++[a]).length-1]? = some a:=by simp
theorem Eb (o:List Int) (a:Int):(o++[a]).take ((o++[a]).length-1)=o:=by simp
theorem BN:∀(x:List Nd) (f:List T),(∀t∈f,t.ok nm)->nL nm (qo f) x (eP f)=0->∃t:T,t.ok nm/\rK f++x=t.post 0
 |
  [],f,hok,h=>by
  unfold nL at h;split at h
  .
   rename_i hl;rw[x7] at hl
   match f,hl with
   |[t],_=>exact ⟨t,hok t (by simp),by simp[rK,qo]⟩
  exact absurd h (by decide)
 |
  n::x,f,hok,h=>by
  unfold nL at h;split at h
  .
   rename_i hf;split at h
   .
    rename_i o' ho
    have go:∀(f':List T),(∀t∈f',t.ok nm)->rK f'=rK f++[n]->eP f'=o'->∃t:T,t.ok nm/\rK f++(n::x)=t.post 0:=λf' hok' hp hr=>by
     have hsz:qo f'=qo f+1:=by rw[<-x6,hp,List.length_append,x6];rfl
     rw[<-hr,<-hsz] at h;obtain ⟨t,k1,k2⟩:=BN x f' hok' h;exact ⟨t,k1,by rw[<-k2,hp];simp⟩
    unfold yR at ho;split at ho
    .
     rename_i h4;cases ho;refine go (.leaf n::f) (λt ht=>?_) rfl ?_
     .
      rcases List.mem_cons.1 ht with rfl|ht
      .
       exact ID hf h4
      exact hok t ht
     simp only[eP,T.size];congr 2;omega
    rename_i h4;obtain ⟨e1,e2,e3,e4⟩:=Pu hf h4;obtain ⟨op,k,s,L,R⟩:=n;simp only at e1 e2 e3 e4 h4;subst e1;subst e2;split at ho
    .
     rename_i h6;simp only at h6;have hR:=e4 h6;subst hR;split at ho
     .
      cases ho
     rename_i hc;cases ho
     match f,hok with
     |[],_=>exact absurd (Or.inl (by simp[eP])) hc
     |
      a::r,hok =>
      have hL:(eP (a::r))[(eP (a::r)).length-1]? = some L:=Classical.byContradiction λhn=>hc (.inr hn)
      rw[eP,BM] at hL;have hL:=Option.some.inj hL;refine go (.un op a::r) (λt ht=>?_) ?_ ?_
      .
       rcases List.mem_cons.1 ht with rfl|ht
       .
        exact ⟨by omega,hok a (by simp)⟩
       exact hok t (by simp[ht])
      .
       simp only[rK,T.post,hL,List.append_assoc]
      rw[eP,eP,Eb];simp only[T.size,qo];congr 2;omega
    rename_i h6;simp only at h6;split at ho
    .
     cases ho
    rename_i hc;cases ho
    match f,hok with
    |[],_=>exact absurd (Or.inl (by simp[eP])) hc
    |[_],_=>exact absurd (Or.inl (by simp[eP])) hc
    |
     b::a::r,hok =>
     have hlen:(eP (b::a::r)).length=(eP r).length+2:=by simp[x7]
     have hR:(eP (b::a::r))[(eP (b::a::r)).length-1]? = some R:=Classical.byContradiction λhn=>hc (.inr (.inr hn))
     have hL:(eP (b::a::r))[(eP (b::a::r)).length-2]? = some L:=Classical.byContradiction λhn=>hc (.inr (.inl hn))
     rw[eP,BM] at hR;have hR:=Option.some.inj hR;rw[hlen,eP,eP] at hL;simp only[Nat.add_sub_cancel,List.append_assoc] at hL;rw[List.getElem?_append_right (Nat.le_refl _)] at hL;simp only[Nat.sub_self,List.singleton_append,List.getElem?_cons_zero] at hL;have hL:=Option.some.inj hL;refine go (.bi op a b::r) (λt ht=>?_) ?_ ?_
     .
      rcases List.mem_cons.1 ht with rfl|ht
      .
       exact ⟨by omega,e3,hok a (by simp),hok b (by simp)⟩
      exact hok t (by simp[ht])
     .
      simp only[rK,qo] at hL hR ⊢;simp only[T.post,hL,hR,List.append_assoc]
     have e2:(eP (b::a::r)).take ((eP (b::a::r)).length-2)=eP r:=by
      rw[hlen,eP,eP];simp
     rw[e2,eP];simp only[T.size,qo];congr 2;omega
   exact absurd h (by decide)
  exact absurd h (by decide)
theorem Tt {x:List Nd} (h:iO nm x=0):∃t:T,t.ok nm/\x=t.post 0/\x.length<=200:=by
 unfold iO at h
 split at h
 .
  exact absurd h (by decide)
 rename_i hl
 obtain ⟨t,h1,h2⟩:=BN x [] (λt ht=>by simp at ht) h
 exact ⟨t,h1,by simpa[rK] using h2,by omega⟩
theorem IE {n:Nd} (h:BH nm n):bU nm n=true/\n.1<=4:=by
 rcases h with ⟨k,rfl⟩|⟨s,rfl,hs⟩|rfl|rfl
 .
  exact ⟨by simp[bU],by show (1:Int)<=4;decide⟩
 .
  exact ⟨by simp[bU,hs],by show (2:Int)<=4;decide⟩
 .
  exact ⟨by simp[bU],by show (3:Int)<=4;decide⟩
 exact ⟨by simp[bU],by show (4:Int)<=4;decide⟩
theorem wg:∀(t:T),t.ok nm->∀(i:Nat) (r:List Nd) (o:List Int),nL nm i (t.post i++r) o=nL nm (i+t.size) r (o++[((i+t.size:Nat):Int)-1])
 |
  .leaf n,h,i,r,o=>by
  obtain ⟨h1,h2⟩:=IE h;show nL nm i (n::r) o=_;rw[nL,if_pos h1];unfold yR;rw[if_pos h2];simp only[T.size]
  congr 3;omega
 |
  .un op a,⟨hop,ha⟩,i,r,o=>by
  have e:(T.un op a).post i++r=a.post i++((op,0,[],((i+a.size:Nat):Int)-1,0)::r):=by simp[T.post]
  rw[e,wg a ha,nL,if_pos (by rcases hop with rfl|rfl<;>simp[bU])]
  unfold yR;simp only;rw[if_neg (by omega),if_pos (by omega),if_neg (by rw[BM];simp),Eb]
  show nL nm (i+a.size+1) r (o++[((i+a.size:Nat):Int)])=nL nm (i+a.size+1) r (o++[((i+a.size+1:Nat):Int)-1]);rw[show ((i+a.size+1:Nat):Int)-1=((i+a.size:Nat):Int) by omega]
 |
  .bi op u v,⟨h7,Tb,hu,hv⟩,i,r,o=>by
  have e:(T.bi op u v).post i++r=u.post i++(v.post (i+u.size)++((op,0,[],((i+u.size:Nat):Int)-1,((i+u.size+v.size:Nat):Int)-1)::r)):=by simp[T.post]
  rw[e,wg u hu,wg v hv,nL,if_pos (by
   simp only[bU,Bool.and_eq_true,Bool.or_eq_true,decide_eq_true_eq,Bool.not_eq_true',decide_eq_false_iff_not];rw[if_neg (by omega)]
   refine ⟨⟨⟨⟨⟨by omega,by omega⟩,.inr trivial⟩,by simp⟩,.inl (by omega)⟩,.inl (by omega)⟩)]
  unfold yR;simp only;rw[if_neg (by omega),if_neg (by omega),if_neg (by simp)]
  have et:(o++[((i+u.size:Nat):Int)-1]++[((i+u.size+v.size:Nat):Int)-1]).take ((o++[((i+u.size:Nat):Int)-1]++[((i+u.size+v.size:Nat):Int)-1]).length-2)=o:=by simp
  rw[et];show nL nm (i+u.size+v.size+1) r (o++[((i+u.size+v.size:Nat):Int)])=nL nm (i+(u.size+v.size+1)) r (o++[((i+(u.size+v.size+1):Nat):Int)-1]);rw[show i+(u.size+v.size+1)=i+u.size+v.size+1 by omega,show ((i+u.size+v.size+1:Nat):Int)-1=((i+u.size+v.size:Nat):Int) by omega]
theorem Pv {t:T} (h:t.ok nm) (hs:t.size<=200):iO nm (t.post 0)=0:=by
 unfold iO
 rw[T.dK,if_neg (by omega)]
 have:=wg t h 0 [] []
 rw[List.append_nil] at this
 rw[this]
 rfl
def fG (x:List Nd):Nat->Int->Bool->Option (List Tok)
 |0,_,_=>none
 |
  k+1,a,w=>match at? x a with
  |none=>none
  |
   some n =>
   if n.1=1 then some [(2,n.2.1,[],0)]
   else if n.1=2 then some [(1,0,n.2.2.1,0)]
   else if n.1<=4 then some [dN (bt n.1)]
   else if n.1<=6 then (match fG x k n.2.2.2.1 false with
    |some u=>some (dN (bt n.1)::u)
    |none=>none)
   else (match fG x k n.2.2.2.1 false,fG x k n.2.2.2.2 false with
    |some u,some v=>some ((if w then [] else [dN [40]])++(u++(dN (bt n.1)::(v++(if w then [] else [dN [41]])))))
    |_,_=>none)
theorem sJ:∀(t:T),t.ok nm->∀(x p r:List Nd) (k:Nat) (w:Bool),x=p++(t.post p.length++r)->t.size<=k->fG x k (((p.length+t.size:Nat):Int)-1) w=some (t.toks w)
 |
  .leaf n,h,x,p,r,k,w,hx,hk=>by
  obtain ⟨k,rfl⟩:∃k',k=k'+1:=⟨k-1,by simp only[T.size] at hk;omega⟩
  have cA:at? x (((p.length+1:Nat):Int)-1)=some n:=by
   have:((p.length+1:Nat):Int)-1=((p.length:Nat):Int):=by omega
   rw[this,hx];exact kf p r n
  simp only[T.size];unfold fG;rw[cA];rcases h with ⟨k,rfl⟩|⟨s,rfl,hs⟩|rfl|rfl<;>rfl
 |
  .un op a,⟨hop,ha⟩,x,p,r,k,w,hx,hk=>by
  obtain ⟨k,rfl⟩:∃k',k=k'+1:=⟨k-1,by simp only[T.size] at hk;omega⟩
  have hx1:x=p++(a.post p.length++((op,0,[],((p.length+a.size:Nat):Int)-1,0)::r)):=by rw[hx];simp[T.post]
  have cA:at? x (((p.length+(a.size+1):Nat):Int)-1)=some (op,0,[],((p.length+a.size:Nat):Int)-1,0):=by
   have e1:((p.length+(a.size+1):Nat):Int)-1=(((p++a.post p.length).length:Nat):Int):=by simp[T.dK];omega
   rw[e1,hx1,<-List.append_assoc];exact kf _ _ _
  have ih:=sJ a ha x p _ k false hx1 (by simp only[T.size] at hk;omega)
  simp only[T.size];unfold fG;rw[cA];simp only;rw[if_neg (by omega),if_neg (by omega),if_neg (by omega),if_pos (by omega),ih]
  rfl
 |
  .bi op u v,⟨h7,Tb,hu,hv⟩,x,p,r,k,w,hx,hk=>by
  obtain ⟨k,rfl⟩:∃k',k=k'+1:=⟨k-1,by simp only[T.size] at hk;omega⟩
  have hx1:x=p++(u.post p.length++(v.post (p.length+u.size)++((op,0,[],((p.length+u.size:Nat):Int)-1,((p.length+u.size+v.size:Nat):Int)-1)::r))):=by rw[hx];simp[T.post]
  have hpl:(p++u.post p.length).length=p.length+u.size:=by simp[T.dK]
  have hx2:x=(p++u.post p.length)++(v.post (p++u.post p.length).length++((op,0,[],((p.length+u.size:Nat):Int)-1,((p.length+u.size+v.size:Nat):Int)-1)::r)):=by rw[hpl,hx1];simp
  have cA:at? x (((p.length+(u.size+v.size+1):Nat):Int)-1)=some (op,0,[],((p.length+u.size:Nat):Int)-1,((p.length+u.size+v.size:Nat):Int)-1):=by
   have e1:((p.length+(u.size+v.size+1):Nat):Int)-1=((((p++u.post p.length)++v.post (p.length+u.size)).length:Nat):Int):=by simp[T.dK];omega
   rw[e1,hx1];have:p++(u.post p.length++(v.post (p.length+u.size)++((op,0,[],((p.length+u.size:Nat):Int)-1,((p.length+u.size+v.size:Nat):Int)-1)::r)))=((p++u.post p.length)++v.post (p.length+u.size))++((op,0,[],((p.length+u.size:Nat):Int)-1,((p.length+u.size+v.size:Nat):Int)-1)::r):=by simp
   rw[this];exact kf _ _ _
  have ih1:=sJ u hu x p _ k false hx1 (by simp only[T.size] at hk;omega)
  have ih2:=sJ v hv x (p++u.post p.length) _ k false hx2 (by simp only[T.size] at hk;omega)
  rw[hpl] at ih2;simp only[T.size];unfold fG;rw[cA];simp only;rw[if_neg (by omega),if_neg (by omega),if_neg (by omega),if_neg (by omega),ih1,ih2]
  rfl
def fQ (nm:List UInt8->Bool) (l:List Tok) (a:Int):Option (List Nd×Int×Int×Int) :=
 if a<0\/(l.length:Int)<a then some ([],0,2,0) else
 match ay nm l (l.length+1) 1 ⟨a,0,[],0,0⟩ with
 |some (true,st)=>some (st.x,st.a,0,0)
 |some (false,st)=>some ([],0,st.e,st.f)
 |none=>none
theorem p7 (l:List Tok) (a:Int):∃r,fQ nm l a=some r:=by
 unfold fQ
 split
 .
  exact ⟨_,rfl⟩
 rename_i h
 obtain ⟨⟨b,st⟩,hr⟩:=nJ (nm:=nm) l (l.length+1) 1 ⟨a,0,[],0,0⟩ (by decide) (by simp) (by show 0<=a;omega) (by show a<=_;omega) (by show _-a<_;omega)
 rw[hr]
 cases b<;>exact ⟨_,rfl⟩
def mA (r:gp):Prop:=∀st,r=some (false,st)->st.e≠0
theorem x8 (st:St) {e:Int} (f:Int) (h:e≠0):mA (qm st e f):=λs hs=>by cases hs;exact h
theorem go_f {r:gp} {k:St->gp} (h:mA r) (hk:∀s,mA (k s)):mA (xX r k):=λst hs=>by
 unfold xX at hs
 split at hs
 .
  exact hk _ st hs
 .
  cases hs;exact h _ rfl
 cases hs
theorem Lb {st:St} {n:Nd} {f:Int} {k:St->gp} (hk:∀s,mA (k s)):mA (gb st n f k):=by
 unfold gb
 split
 .
  exact x8 _ _ (by decide)
 exact hk _
theorem Tu {st:St} {k:St->gp} (hk:∀s,mA (k s)):mA (iZ st k):=by
 unfold iZ
 split
 .
  exact x8 _ _ (by decide)
 exact hk _
theorem Tw {l:List Tok} {rec:Int->St->gp} (hr:∀s st,mA (rec s st)) (str:Int):∀(n:Nat) (st:St),mA (bK l rec str n st)
 |0,st=>λ_ h=>by cases h
 |
  n+1,st=>by
  unfold bK;split
  .
   intro _ h;cases h
  split
  .
   intro _ h;cases h
  exact go_f (hr _ _) λs=>Lb λs=>Tw hr str n s
theorem zM (l:List Tok):∀(k:Nat) (str:Int) (st:St),mA (ay nm l k str st)
 |0,_,_=>λ_ h=>by cases h
 |
  k+1,str,st=>by
  have ih:=zM l k;show mA (dJ nm l (ay nm l k) st (bK l (ay nm l k) str (l.length+1)));have hm:=Tw (l:=l) ih str (l.length+1);unfold dJ;split
  .
   exact x8 _ _ (by decide)
  split
  .
   exact Lb hm
  split
  .
   refine Tu λs=>go_f (ih _ _) λs=>?_
   split
   .
    exact hm _
   exact Lb hm
  split
  .
   refine Tu λs=>go_f (ih _ _) λs=>?_
   split
   .
    exact x8 _ _ (by decide)
   split
   .
    exact hm _
   exact x8 _ _ (by decide)
  exact x8 _ _ (by decide)
theorem wh {l:List Tok} {a:Int} {y:List Nd} {e f g:Int} (h:fQ nm l a=some (y,e,f,g)):(f≠0->y=[]/\e=0)/\(f=0->iO nm y=0/\a<e/\e<=(l.length:Int)):=by
 unfold fQ at h
 split at h
 .
  cases h;exact ⟨λ_=>⟨rfl,rfl⟩,λh=>absurd h (by decide)⟩
 rename_i ha
 split at h
 .
  rename_i st hc;cases h;refine ⟨λh=>absurd rfl h,λ_=>?_⟩
  obtain ⟨t,h1,h2,h3,h4,h5,_,_,h8⟩:=fK l _ 1 ⟨a,0,[],0,0⟩ st (by decide) (by simp) (by show a<=_;omega) hc
  have h2:st.x=t.post 0:=by rw[h2];rfl
  refine ⟨?_,h3,h4⟩;rw[h2] at h8 ⊢;exact Pv h1 (by rw[T.dK] at h8;exact h8)
 .
  rename_i st hc;cases h;exact ⟨λ_=>⟨rfl,rfl⟩,λh=>absurd h (zM l _ _ _ st hc)⟩
 cases h
theorem T.sK:∀(t:T),t.need<=(t.toks false).length
 |.leaf _=>Nat.zero_le _
 |.un _ a=>by have:=a.sK;simp only[T.need,T.toks,List.length_cons];omega
 |
  .bi _ u v=>by
  have h1:=u.sK;have h2:=v.sK;simp[T.need,T.toks];omega
theorem ab9 {t:T} (h:t.ok nm):(∃f,fQ nm (t.toks true) 0=some ([],0,3,f))\/fQ nm (t.toks true) 0=some (t.post 0,((t.toks true).length:Int),0,0):=by
 have key:K8 (ay nm (t.toks true) ((t.toks true).length+1) 1 ⟨0,0,[],0,0⟩)\/ay nm (t.toks true) ((t.toks true).length+1) 1 ⟨0,0,[],0,0⟩=some (true,⟨((t.toks true).length:Int),0,t.post 0,0,0⟩):=by
  have hc:∀k s st',ay nm (t.toks true) (k+1) s st'=dJ nm (t.toks true) (ay nm (t.toks true) k) st' (bK (t.toks true) (ay nm (t.toks true) k) s ((t.toks true).length+1)):=λ_ _ _=>rfl
  have one:t.toks true=t.toks false->K8 (ay nm (t.toks true) ((t.toks true).length+1) 1 ⟨0,0,[],0,0⟩)\/ay nm (t.toks true) ((t.toks true).length+1) 1 ⟨0,0,[],0,0⟩=some (true,⟨((t.toks true).length:Int),0,t.post 0,0,0⟩):=λe=>by
   rw[hc];rcases m9 t h (t.toks true) [] [] (t.toks true).length ⟨0,0,[],0,0⟩ (bK (t.toks true) (ay nm (t.toks true) (t.toks true).length) 1 ((t.toks true).length+1)) (by rw[e];simp) rfl (by rw[e];exact t.sK) with h1|h1
   .
    exact .inl h1
   right
   rw[h1,iC (p:=t.toks true) (tO:=[]) (by simp) (by rw[e];simp) trivial]
   rw[e];simp
  cases t with
  |leaf n=>exact one rfl
  |un op a=>exact one rfl
  |
   bi op u v =>
   obtain ⟨h7,Tb,hu,hv⟩:=h;obtain ⟨b1,b2,b3⟩:=IA op h7 Tb;generalize hl:(T.bi op u v).toks true=l at hc;have J0:l=[]++(u.toks false++(dN (bt op)::(v.toks false))):=by rw[<-hl];simp[T.toks]
   have hlen:l.length=(u.toks false).length+(v.toks false).length+1:=by rw[J0];simp;omega
   obtain ⟨m,hm⟩:∃m,l.length=m+1:=⟨l.length-1,by omega⟩
   have n1:=u.sK;have n2:=v.sK;rw[hc,hm];rcases m9 u hu l [] _ (m+1) ⟨0,0,[],0,0⟩ (bK l (ay nm l (m+1)) 1 (m+1+1)) J0 rfl (by omega) with h1|h1
   .
    exact .inl h1
   rw[h1]
   have cA:at? l ((([]:List Tok).length+(u.toks false).length:Nat):Int)=some (dN (bt op)):=by
    rw[J0,List.nil_append];simp only[List.length_nil,Nat.zero_add];exact kf _ _ _
   have step:bK l (ay nm l (m+1)) 1 (m+1+1) { a:=((([]:List Tok).length+(u.toks false).length:Nat):Int),d:=0,x:=[]++u.post ([]:List Nd).length,e:=0,f:=0 } =
    xX (ay nm l (m+1) ((bin (dN (bt op))).2+1) { a:=((([]:List Tok).length+(u.toks false).length:Nat):Int)+1,d:=0,x:=[]++u.post ([]:List Nd).length,e:=0,f:=0 }) λs2 =>
     gb s2 ((bin (dN (bt op))).1,0,[],(([]++u.post ([]:List Nd).length).length:Int)-1,s2.x.length-1) ((([]:List Tok).length+(u.toks false).length:Nat):Int) (bK l (ay nm l (m+1)) 1 (m+1)):=by
    conv=>lhs;unfold bK
    simp only[cA];rw[if_neg (by omega)]
   rw[step,b1,hc];have qB:l=(u.toks false++[dN (bt op)])++(v.toks false++[]):=by rw[J0];simp
   rcases m9 v hv l (u.toks false++[dN (bt op)]) [] m { a:=((([]:List Tok).length+(u.toks false).length:Nat):Int)+1,d:=0,x:=[]++u.post ([]:List Nd).length,e:=0,f:=0 } (bK l (ay nm l m) ((bin (dN (bt op))).2+1) (l.length+1)) qB (by simp) (by omega) with h2|h2
   .
    exact .inl (go_long h2)
   rw[h2,iC (p:=l) (tO:=[]) (by simp) (by simp[hlen];omega) trivial]
   simp only[xX]
   rcases zL (st:={ a:=(((u.toks false++[dN (bt op)]).length+(v.toks false).length:Nat):Int),d:=0,x:=[]++u.post ([]:List Nd).length++v.post ([]++u.post ([]:List Nd).length).length,e:=0,f:=0 })
    (n:=(op,0,[],(([]++u.post ([]:List Nd).length).length:Int)-1,(([]++u.post ([]:List Nd).length++v.post ([]++u.post ([]:List Nd).length).length).length:Int)-1)) (f:=((([]:List Tok).length+(u.toks false).length:Nat):Int)) (k:=bK l (ay nm l (m+1)) 1 (m+1)) with h3|h3
   .
    exact .inl h3
   right
   rw[h3,iC (p:=l) (tO:=[]) (by simp) (by simp[hlen];omega) trivial]
   simp only[Option.some.injEq,Prod.mk.injEq,true_and,St.mk.injEq,and_true];refine ⟨by simp[hlen];omega,?_⟩
   simp[T.post,T.dK]
 unfold fQ
 rw[if_neg (by omega)]
 rcases key with ⟨st,h1,h2⟩|h1
 .
  rw[h1];exact .inl ⟨st.f,by rw[<-h2]⟩
 rw[h1]
 exact .inr rfl
end Go.Px

namespace Go.Pp
open Go.Px
abbrev Rg:=Int×Int
abbrev Mm:=(Int×Int)×(Int×Int)×Int×Int×Int
abbrev Raw:=Int×(Int×Int)×((Int×Int)×(Int×Int)×Int×Int×Int)×List Nd×Bool
def Nq:List (List UInt8×Int×Int):=[([98,121,116,101],1,0),([119,111,114,100],2,0),([100,119,111,114,100],4,0),([113,119,111,114,100],8,0),([111,119,111,114,100],16,0),([121,119,111,114,100],32,0),([115,104,111,114,116],0,1),([110,101,97,114],0,2),([115,116,114,105,99,116],0,3)]
def eW (t:Tok):Int×Int:=if t.1=1 then eI t.2.2.1 Nq else (0,0)
def gX (t:Tok) (s:List UInt8):Bool:=decide (t.1=1)&&decide (t.2.2.1=s)
def aT (l:List Tok) (a:Int) (s:List UInt8):Bool:=match at? l a with
 |some t=>iY t s
 |none=>false
def yS (t:Tok):Bool := !decide (t.1=4)||(decide (t.2.2.1=[36])||(decide (t.2.2.1=[36,36])||decide (t.2.2.1=[41])))
def gD (op:Int):Bool:=decide (op=53)||(decide (op=54)||decide (68<=op/\op<=83))
def rM (c n:Int):Bool:=decide (c=5/\0<=n/\n<16)
def sizedB (n:Int):Bool:=decide (n=0\/n=1\/n=2\/n=4\/n=8\/n=16\/n=32)
def kg (n:Int):Bool:=decide (n=1\/n=2\/n=4\/n=8)
def rO (c n:Int):Bool:=decide (c=0)&&decide (n=0)
def IG (c n:Int):Bool:=decide (c=8)&&decide (n=0)
def oF (c n:Int):Bool:=decide (c=5)&&decide (n=4)
def FR (bc bn ic ix sc d sz:Int):Int :=
 if d < -2147483648\/2147483647<d then 5
 else if sizedB sz=false then 2
 else if rO bc bn=false/\IG bc bn=false/\rM bc bn=false then 2
 else if rO ic ix=true then (if sc=0 then 0 else 2)
 else if rM ic ix=false\/kg sc=false\/IG bc bn=true then 2
 else if oF ic ix=true/\(sc≠1\/oF bc bn=true) then 2
 else 0
def gY:List Tok->Int->Int->Option Int
 |[],_,_=>none
 |
  t::r,a,d=>if iY t [40]=true then gY r (a+1) (d+1) else if iY t [41]=true then gY r (a+1) (if 0<d-1 then d-1 else 0)
  else if d=0/\iY t [93]=true then some a else gY r (a+1) d
def kE (e:Int):Tok->List Tok->Int->Int->Int
 |_,[],_,_=>e
 |
  p,t::r,a,d=>if iY t [40]=true then kE e t r (a+1) (d+1) else if iY t [41]=true then kE e t r (a+1) (if 0<d-1 then d-1 else 0)
  else if d=0/\(iY t [43]=true\/iY t [45]=true)/\yS p=true then a else kE e t r (a+1) d
def CY:Tok:=(0,0,[],0)
def eK (l:List Tok) (a:Int):Option Int:=gY (l.drop a.toNat) a 0
def bN (l:List Tok) (a e:Int):Int:=kE e ((at? l (a-1)).getD CY) ((l.take e.toNat).drop a.toNat) a 0
structure TS where
 bc:Int
 bn:Int
 ic:Int
 ix:Int
 sc:Int
 put:List Tok
abbrev kC:=Bool×Int×Int×TS
def eR (s:TS) (e f:Int):kC:=(false,e,f,s)
def okO (s:TS):kC:=(true,0,0,s)
section
variable (rp:List UInt8->Int×Int×Bool) (l:List Tok)
def gZ (t:Tok):Option Rg:=if t.1=1/\(rp t.2.2.1).2.2=true/\(rp t.2.2.1).1≠8 then some ((rp t.2.2.1).1,(rp t.2.2.1).2.1) else none
def gw (sg:List UInt8) (r:Rg) (a:Int) (s:TS):kC :=
 if sg=[45] then eR s 2 a else if s.bc=0/\s.bn=0 then okO { s with bc:=r.1,bn:=r.2 }
 else if s.ic=0/\s.ix=0 then okO { s with ic:=r.1,ix:=r.2,sc:=1 } else eR s 2 a
def dS (sg:List UInt8) (r:Rg) (a num n:Int) (s:TS):kC :=
 if sg=[45]\/¬(s.ic=0/\s.ix=0) then eR s 2 a
 else if kg n=true then okO { s with ic:=r.1,ix:=r.2,sc:=n } else eR s 2 num
def FT (l:List Tok) (a b:Int):List Tok:=(l.drop a.toNat).take (b.toNat-a.toNat)
def kX (sg:List UInt8) (a b:Int) (s:TS):kC :=
 okO { s with put:=(if sg=[45]\/s.put≠[] then s.put++[dN sg] else s.put)++[dN [40]]++FT l a b++[dN [41]] }
def gh (sg:List UInt8) (a b:Int) (s:TS):kC :=
 if b-a=0 then eR s 4 a
 else if b-a=1 then match at? l a with
  |
   some t=>if gX t [114,105,112]=true then gw sg (8,0) a s else match gZ rp t with
   |some r=>gw sg r a s
   |none=>kX l sg a b s
  |none=>eR s 0 0
 else if b-a=3/\aT l (a+1) [42]=true then match at? l a,at? l (a+2) with
  |
   some t,some u=>match gZ rp t,gZ rp u with
   |some r,some q=>if u.1=2 then dS sg r a (a+2) u.2.1 s else if t.1=2 then dS sg q a a t.2.1 s else kX l sg a b s
   |some r,none=>if u.1=2 then dS sg r a (a+2) u.2.1 s else kX l sg a b s
   |none,some q=>if t.1=2 then dS sg q a a t.2.1 s else kX l sg a b s
   |none,none=>kX l sg a b s
  |_,_=>eR s 0 0
 else kX l sg a b s
def iX (e:Int):Nat->List UInt8->Int->TS->Option kC
 |0,_,_,_=>none
 |
  n+1,sg,a,s=>match gh rp l sg a (bN l a e) s with
  |
   (true,_,_,s')=>if bN l a e=e then some (okO s') else match at? l (bN l a e) with
   |some t=>iX e n t.2.2.1 (bN l a e+1) s'
   |none=>none
  |(false,x,f,s')=>some (eR s' x f)
end
end Go.Pp
