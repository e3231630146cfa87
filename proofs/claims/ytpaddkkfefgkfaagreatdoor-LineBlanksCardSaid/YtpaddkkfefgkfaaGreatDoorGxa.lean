/- Expressions: what reading them comes to, and what they are told as; trees. Expressions: whether one may be, the tokens of one, a text that is told and read again. Operands and instructions: what reading them comes to. -/

namespace Go.Px
abbrev Tok:=Int×Int×List UInt8×Int
abbrev Nd:=Int×Int×List UInt8×Int×Int
def at? {α:Type} (l:List α) (i:Int):Option α :=
 match i with
 |.ofNat n=>l[n]?
 |.negSucc _=>none
def iI (t:Tok) (s:List UInt8):Bool:=decide (t.1=4)&&decide (t.2.2.1=s)
def pP (nm:List UInt8->Bool) (t:Tok):Option Nd :=
 if t.1=2 then some (1,t.2.1,[],0,0)
 else if t.1=1/\nm t.2.2.1=true then some (2,0,t.2.2.1,0,0)
 else if iI t [36]=true then some (3,0,[],0,0)
 else if iI t [36,36]=true then some (4,0,[],0,0)
 else none
def pref (t:Tok):Option Int :=
 if iI t [45]=true then some 5 else if iI t [126]=true then some 6 else if iI t [43]=true then some 0 else none
def adi:List (List UInt8×Int×Int):=[([42],7,6),([47],8,6),([37],9,6),([43],10,5),([45],11,5),([60,60],12,4),([62,62],13,4),([38],14,3),([94],15,2),([124],16,1)]
def ef (s:List UInt8):List (List UInt8×Int×Int)->Int×Int
 |[]=>(0,0)
 |q::l=>if s=q.1 then q.2 else ef s l
def bin (t:Tok):Int×Int:=if t.1=4 then ef t.2.2.1 adi else (0,0)
structure St where
 a:Int
 d:Int
 x:List Nd
 e:Int
 f:Int
abbrev fP:=Option (Bool×St)
def pI (st:St) (e f:Int):fP:=some (false,{ st with e:=e,f:=f })
def fK (st:St) (n:Nd) (f:Int) (k:St->fP):fP:=if st.x.length=200 then pI st 3 f else k { st with x:=st.x++[n] }
def iJ (st:St) (k:St->fP):fP:=if st.d=50 then pI st 3 st.a else k { st with d:=st.d+1,a:=st.a+1 }
def wu (r:fP) (k:St->fP):fP :=
 match r with
 |some (true,st)=>k st
 |some (false,st)=>some (false,st)
 |none=>none
section
variable (nm:List UInt8->Bool) (l:List Tok)
def cY (rec:Int->St->fP) (st:St) (k:St->fP):fP :=
 match at? l st.a with
 |none=>pI st 4 st.a
 |
  some t=>match pP nm t with
  |some n=>fK { st with a:=st.a+1 } n st.a k
  |
   none=>match pref t with
   |some op=>iJ st λs1=>wu (rec 7 s1) λs2 =>
    if op=0 then k { s2 with d:=s2.d-1 } else fK { s2 with d:=s2.d-1 } (op,0,[],s2.x.length-1,0) st.a k
   |
    none=>if iI t [40]=true then iJ st λs1=>wu (rec 1 s1) λs2=>match at? l s2.a with
     |none=>pI s2 4 s2.a
     |some c=>if iI c [41]=true then k { s2 with d:=s2.d-1,a:=s2.a+1 } else pI s2 4 s2.a
    else pI st 4 st.a
def bE (rec:Int->St->fP) (str:Int):Nat->St->fP
 |0,_=>none
 |
  n+1,st=>match at? l st.a with
  |none=>some (true,st)
  |some t=>if (bin t).2<str then some (true,st) else
   wu (rec ((bin t).2+1) { st with a:=st.a+1 }) λs2=>fK s2 ((bin t).1,0,[],st.x.length-1,s2.x.length-1) st.a (bE rec str n)
def av:Nat->Int->St->fP
 |0=>λ_ _=>none
 |k+1=>λstr st=>cY nm l (av k) st (bE l (av k) str (l.length+1))
end
inductive T where
 |leaf (n:Nd)
 |un (op:Int) (a:T)
 |bi (op:Int) (a b:T)
def T.size:T->Nat
 |.leaf _=>1
 |.un _ a=>a.size+1
 |.bi _ a b=>a.size+b.size+1
theorem T.size_pos:∀t:T,0<t.size
 |.leaf _=>Nat.zero_lt_one
 |.un _ _=>Nat.succ_pos _
 |.bi _ _ _=>Nat.succ_pos _
def T.post (b:Nat):T->List Nd
 |.leaf n=>[n]
 |.un op a=>a.post b++[(op,0,[],((b+a.size:Nat):Int)-1,0)]
 |.bi op u v=>u.post b++(v.post (b+u.size)++[(op,0,[],((b+u.size:Nat):Int)-1,((b+u.size+v.size:Nat):Int)-1)])
theorem T.dK:∀(t:T) (b:Nat),(t.post b).length=t.size
 |.leaf _,_=>rfl
 |.un _ a,b=>by simp[T.post,T.size,a.dK b]
 |.bi _ u v,b=>by simp[T.post,T.size,u.dK b,v.dK (b+u.size)];omega
def Ad (nm:List UInt8->Bool) (n:Nd):Prop :=
 (∃k,n=(1,k,[],0,0))\/(∃s,n=(2,0,s,0,0)/\nm s=true)\/n=(3,0,[],0,0)\/n=(4,0,[],0,0)
def T.ok (nm:List UInt8->Bool):T->Prop
 |.leaf n=>Ad nm n
 |.un op a=>(op=5\/op=6)/\a.ok nm
 |.bi op u v=>7<=op/\op<=16/\u.ok nm/\v.ok nm
def bC (op:Int):List UInt8 :=
 if op=3 then [36] else if op=4 then [36,36] else if op=5\/op=11 then [45] else if op=6 then [126] else if op=7 then [42] else if op=8 then [47]
 else if op=9 then [37] else if op=10 then [43] else if op=12 then [60,60] else if op=13 then [62,62] else if op=14 then [38] else if op=15 then [94] else [124]
def dN (s:List UInt8):Tok:=(4,0,s,0)
def yo (n:Nd):Tok:=if n.1=1 then (2,n.2.1,[],0) else if n.1=2 then (1,0,n.2.2.1,0) else dN (bC n.1)
def T.toks (w:Bool):T->List Tok
 |.leaf n=>[yo n]
 |.un op a=>dN (bC op)::a.toks false
 |.bi op u v=>(if w then [] else [dN [40]])++(u.toks false++(dN (bC op)::(v.toks false++(if w then [] else [dN [41]]))))
theorem jH {α:Type} (p r:List α) (c:α):at? (p++c::r) ((p.length:Nat):Int)=some c:=by
 show (p++c::r)[p.length]? = some c
 simp
theorem YB {α:Type} (p:List α):at? p ((p.length:Nat):Int)=none:=by
 show p[p.length]? = none
 simp
def agr (t:Tok):Prop:=(bin t).2=0
theorem GA (op:Int) (h7:7<=op) (YC:op<=16):(bin (dN (bC op))).1=op/\1<=(bin (dN (bC op))).2/\(bin (dN (bC op))).2<=6:=by
 obtain rfl|rfl|rfl|rfl|rfl|rfl|rfl|rfl|rfl|rfl:op=7\/op=8\/op=9\/op=10\/op=11\/op=12\/op=13\/op=14\/op=15\/op=16:=by omega
 all_goals decide
theorem CE:(bin (dN [41])).2=0:=by decide
def Jn (r:fP):Prop:=∃st,r=some (false,st)/\st.e=3
theorem yp {st:St} {n:Nd} {f:Int} {k:St->fP}:Jn (fK st n f k)\/fK st n f k=k { st with x:=st.x++[n] }:=by
 unfold fK
 split
 .
  exact .inl ⟨_,rfl,rfl⟩
 exact .inr rfl
theorem K7 {st:St} {k:St->fP}:Jn (iJ st k)\/iJ st k=k { st with d:=st.d+1,a:=st.a+1 }:=by
 unfold iJ
 split
 .
  exact .inl ⟨_,rfl,rfl⟩
 exact .inr rfl
theorem go_long {r:fP} {k:St->fP} (h:Jn r):Jn (wu r k):=by
 obtain ⟨st,rfl,h⟩:=h
 exact ⟨st,rfl,h⟩
variable {nm:List UInt8->Bool}
theorem MR {n:Nd} (h:Ad nm n):pP nm (yo n)=some n:=by
 rcases h with ⟨k,rfl⟩|⟨s,rfl,hs⟩|rfl|rfl
 .
  rfl
 .
  have e:yo (2,0,s,0,0)=(1,0,s,0):=rfl;rw[e];unfold pP;rw[if_neg (show ¬(1:Int)=2 by decide),if_pos ⟨rfl,hs⟩]
 .
  rfl
 rfl
theorem MS (op:Int) (h:op=5\/op=6):pP nm (dN (bC op))=none/\pref (dN (bC op))=some op:=by
 rcases h with rfl|rfl<;>exact ⟨rfl,rfl⟩
theorem QH:pP nm (dN [40])=none/\pref (dN [40])=none/\iI (dN [40]) [40]=true:=⟨rfl,rfl,by decide⟩
def T.need:T->Nat
 |.leaf _=>0
 |.un _ a=>a.need+1
 |.bi _ u v=>max u.need v.need+2
def Wi (str:Int) (wz:List Tok):Prop:=match wz with
 |[]=>True
 |t::_=>(bin t).2<str
theorem gU {l:List Tok} {rec:Int->St->fP} {str:Int} {n:Nat} {st:St} {p wz:List Tok} (hl:l=p++wz) (ha:st.a=(p.length:Nat)) (hs:Wi str wz):bE l rec str (n+1) st=some (true,st):=by
 unfold bE
 cases wz with
 |nil=>rw[ha,hl,List.append_nil,YB]
 |
  cons t r =>
  rw[ha,hl,jH];simp only;rw[if_pos (show (bin t).2<str from hs)]
theorem mb:∀(t:T),t.ok nm->∀(l p wz:List Tok) (k:Nat) (st:St) (K:St->fP),l=p++(t.toks false++wz)->st.a=(p.length:Nat)->t.need<=k ->
 Jn (cY nm l (av nm l k) st K)\/cY nm l (av nm l k) st K=K { st with a:=((p.length+(t.toks false).length:Nat):Int),x:=st.x++t.post st.x.length }
 |
  .leaf n,hok,l,p,wz,k,st,K,hl,ha,hk=>by
  have e:cY nm l (av nm l k) st K=fK { st with a:=st.a+1 } n st.a K:=by
   unfold cY;have:at? l st.a=some (yo n):=by rw[ha,hl];exact jH p _ _
   rw[this];simp only[MR hok]
  rw[e];rcases yp (st:={ st with a:=st.a+1 }) (n:=n) (f:=st.a) (k:=K) with h|h
  .
   exact .inl h
  right
  rw[h,ha];rfl
 |
  .un op a,⟨hop,hok⟩,l,p,wz,k,st,K,hl,ha,hk=>by
  obtain ⟨k,rfl⟩:∃k',k=k'+1:=⟨k-1,by simp only[T.need] at hk;omega⟩
  obtain ⟨h1,h2⟩:=MS (nm:=nm) op hop;have vo:l=(p++[dN (bC op)])++(a.toks false++wz):=by rw[hl];simp[T.toks]
  have e:cY nm l (av nm l (k+1)) st K=iJ st λs1=>wu (av nm l (k+1) 7 s1) λs2 =>
   if op=0 then K { s2 with d:=s2.d-1 } else fK { s2 with d:=s2.d-1 } (op,0,[],s2.x.length-1,0) st.a K:=by
   unfold cY;have:at? l st.a=some (dN (bC op)):=by rw[ha,hl];exact jH p _ _
   rw[this];simp only[h1,h2]
  rw[e]
  rcases K7 (st:=st) (k:=λs1=>wu (av nm l (k+1) 7 s1) λs2 =>
   if op=0 then K { s2 with d:=s2.d-1 } else fK { s2 with d:=s2.d-1 } (op,0,[],s2.x.length-1,0) st.a K) with h|h
  .
   exact .inl h
  rw[h];have ih:=mb a hok l (p++[dN (bC op)]) wz k { st with d:=st.d+1,a:=st.a+1 } (bE l (av nm l k) 7 (l.length+1)) vo (by simp[ha]) (by simp only[T.need] at hk;omega)
  have hc:av nm l (k+1) 7 { st with d:=st.d+1,a:=st.a+1 }=cY nm l (av nm l k) { st with d:=st.d+1,a:=st.a+1 } (bE l (av nm l k) 7 (l.length+1)):=rfl
  rw[hc];rcases ih with ih|ih
  .
   exact .inl (go_long ih)
  rw[ih,gU (p:=p++dN (bC op)::a.toks false) (wz:=wz) (by rw[hl];simp[T.toks]) (by simp;omega) (by
   unfold Wi;split
   .
    trivial
   rename_i t r
   have:∀(s:List UInt8) (m:List (List UInt8×Int×Int)),(∀q∈m,q.2.2<7)->(ef s m).2<7:=by
    intro s m
    induction m with
    |nil=>intro _;show (0:Int)<7;decide
    |
     cons q m ihm =>
     intro hm;unfold ef;split
     .
      exact hm q (List.mem_cons_self ..)
     exact ihm λx hx=>hm x (List.mem_cons_of_mem _ hx)
   unfold bin;split
   .
    exact this _ _ (by decide)
   decide)]
  unfold wu;simp only;rw[if_neg (by omega)]
  rcases yp (st:={ st with d:=st.d+1-1,a:=(((p++[dN (bC op)]).length+(a.toks false).length:Nat):Int),x:=st.x++a.post st.x.length }) (n:=(op,0,[],((st.x++a.post st.x.length).length:Int)-1,0)) (f:=st.a) (k:=K) with h|h
  .
   exact .inl h
  right
  rw[h]
  congr 1
  simp only[St.mk.injEq,true_and,and_true];refine ⟨?_,by omega,?_⟩
  .
   simp[T.toks];omega
  simp[T.post,T.dK]
 |
  .bi op u v,⟨h7,YC,hu,hv⟩,l,p,wz,k,st,K,hl,ha,hk=>by
  obtain ⟨k,rfl⟩:∃k',k=k'+2:=⟨k-2,by simp only[T.need] at hk;omega⟩
  obtain ⟨o1,o2,o3⟩:=QH (nm:=nm);obtain ⟨b1,b2,b3⟩:=GA op h7 YC;have hku:u.need<=k+1:=by simp only[T.need] at hk;omega
  have hkv:v.need<=k:=by simp only[T.need] at hk;omega
  have H9:l=(p++[dN [40]])++(u.toks false++(dN (bC op)::(v.toks false++(dN [41]::wz)))):=by rw[hl];simp[T.toks]
  have e:cY nm l (av nm l (k+2)) st K=iJ st λs1=>wu (av nm l (k+2) 1 s1) λs2=>match at? l s2.a with
   |none=>pI s2 4 s2.a
   |some c=>if iI c [41]=true then K { s2 with d:=s2.d-1,a:=s2.a+1 } else pI s2 4 s2.a:=by
   unfold cY;have:at? l st.a=some (dN [40]):=by rw[ha,H9];simp only[List.append_assoc,List.singleton_append];exact jH p _ _
   rw[this];simp only[o1,o2,o3,if_true]
  rw[e]
  rcases K7 (st:=st) (k:=λs1=>wu (av nm l (k+2) 1 s1) λs2=>match at? l s2.a with
   |none=>pI s2 4 s2.a
   |some c=>if iI c [41]=true then K { s2 with d:=s2.d-1,a:=s2.a+1 } else pI s2 4 s2.a) with h|h
  .
   exact .inl h
  rw[h];have hc:av nm l (k+2) 1 { st with d:=st.d+1,a:=st.a+1 }=cY nm l (av nm l (k+1)) { st with d:=st.d+1,a:=st.a+1 } (bE l (av nm l (k+1)) 1 (l.length+1)):=rfl
  rw[hc];rcases mb u hu l (p++[dN [40]]) (dN (bC op)::(v.toks false++(dN [41]::wz))) (k+1) { st with d:=st.d+1,a:=st.a+1 } (bE l (av nm l (k+1)) 1 (l.length+1)) H9 (by simp[ha]) hku with ih|ih
  .
   exact .inl (go_long ih)
  rw[ih]
  -- the operator
  obtain ⟨m,hm⟩:∃m,l.length=m+1:=⟨l.length-1,by rw[H9];simp;omega⟩
  have cw:at? l (((p++[dN [40]]).length+(u.toks false).length:Nat):Int)=some (dN (bC op)):=by
   have:l=((p++[dN [40]])++u.toks false)++(dN (bC op)::(v.toks false++(dN [41]::wz))):=by rw[H9];simp
   rw[this,<-List.length_append];exact jH _ _ _
  rw[hm]
  have step:bE l (av nm l (k+1)) 1 (m+1+1) { st with d:=st.d+1,a:=(((p++[dN [40]]).length+(u.toks false).length:Nat):Int),x:=st.x++u.post st.x.length } =
   wu (av nm l (k+1) ((bin (dN (bC op))).2+1) { st with d:=st.d+1,a:=(((p++[dN [40]]).length+(u.toks false).length:Nat):Int)+1,x:=st.x++u.post st.x.length }) λs2 =>
    fK s2 ((bin (dN (bC op))).1,0,[],((st.x++u.post st.x.length).length:Int)-1,s2.x.length-1) (((p++[dN [40]]).length+(u.toks false).length:Nat):Int) (bE l (av nm l (k+1)) 1 (m+1)):=by
   conv=>lhs;unfold bE
   simp only[cw];rw[if_neg (by omega)]
  rw[step,b1];have hc2:∀s st',av nm l (k+1) s st'=cY nm l (av nm l k) st' (bE l (av nm l k) s (l.length+1)):=λ_ _=>rfl
  rw[hc2];have vo:l=((p++[dN [40]])++(u.toks false++[dN (bC op)]))++(v.toks false++(dN [41]::wz)):=by rw[H9];simp
  rcases mb v hv l ((p++[dN [40]])++(u.toks false++[dN (bC op)])) (dN [41]::wz) k { st with d:=st.d+1,a:=(((p++[dN [40]]).length+(u.toks false).length:Nat):Int)+1,x:=st.x++u.post st.x.length } (bE l (av nm l k) ((bin (dN (bC op))).2+1) (l.length+1)) vo (by simp;omega) hkv with ih2|ih2
  .
   exact .inl (go_long (go_long ih2))
  have hl3:l=((p++[dN [40]])++(u.toks false++(dN (bC op)::v.toks false)))++(dN [41]::wz):=by rw[H9];simp
  rw[ih2,gU (p:=(p++[dN [40]])++(u.toks false++(dN (bC op)::v.toks false))) (wz:=dN [41]::wz) hl3 (by simp;omega) (by show (bin (dN [41])).2<_;rw[CE];omega)]
  simp only[wu];have hx:(st.x++u.post st.x.length).length=st.x.length+u.size:=by rw[List.length_append,T.dK]
  rcases yp (st:={ st with d:=st.d+1,a:=((((p++[dN [40]])++(u.toks false++[dN (bC op)])).length+(v.toks false).length:Nat):Int),x:=st.x++u.post st.x.length++v.post (st.x++u.post st.x.length).length })
   (n:=(op,0,[],((st.x++u.post st.x.length).length:Int)-1,((st.x++u.post st.x.length++v.post (st.x++u.post st.x.length).length).length:Int)-1)) (f:=(((p++[dN [40]]).length+(u.toks false).length:Nat):Int)) (k:=bE l (av nm l (k+1)) 1 (m+1)) with h2|h2
  .
   exact .inl (go_long h2)
  rw[h2,gU (p:=(p++[dN [40]])++(u.toks false++(dN (bC op)::v.toks false))) (wz:=dN [41]::wz) hl3 (by simp;omega) (by show (bin (dN [41])).2<_;rw[CE];omega)]
  simp only[wu]
  have ags:at? l ((((p++[dN [40]])++(u.toks false++[dN (bC op)])).length+(v.toks false).length:Nat):Int)=some (dN [41]):=by
   have e1:((p++[dN [40]])++(u.toks false++[dN (bC op)])).length+(v.toks false).length=((p++[dN [40]])++(u.toks false++(dN (bC op)::v.toks false))).length:=by simp;omega
   rw[e1,hl3];exact jH _ _ _
  rw[ags];simp only;rw[if_pos (by decide)]
  right
  congr 1
  simp only[St.mk.injEq,true_and,and_true];refine ⟨?_,by omega,?_⟩
  .
   simp[T.toks];omega
  simp only[T.post,hx,List.append_assoc,List.length_append,T.dK]
  congr 3
  simp;omega
theorem dL {α:Type} {l:List α} {i:Int} {c:α} (h:at? l i=some c):0<=i/\i<(l.length:Int):=by
 unfold at? at h
 split at h
 .
  rename_i n;have:=(List.getElem?_eq_some_iff.1 h).1;simp;omega
 cases h
theorem Ut {t:Tok} {n:Nd} (h:pP nm t=some n):Ad nm n:=by
 unfold pP at h
 split at h
 .
  cases h;exact .inl ⟨_,rfl⟩
 split at h
 .
  rename_i h2;cases h;exact .inr (.inl ⟨_,rfl,h2.2⟩)
 split at h
 .
  cases h;exact .inr (.inr (.inl rfl))
 split at h
 .
  cases h;exact .inr (.inr (.inr rfl))
 cases h
theorem Uu {t:Tok} {op:Int} (h:pref t=some op):op=0\/op=5\/op=6:=by
 unfold pref at h
 split at h
 .
  cases h;omega
 split at h
 .
  cases h;omega
 split at h
 .
  cases h;omega
 cases h
theorem QI {t:Tok} (h:1<=(bin t).2):7<=(bin t).1/\(bin t).1<=16/\(bin t).2<=6:=by
 have key:∀(s:List UInt8) (m:List (List UInt8×Int×Int)),(∀q∈m,7<=q.2.1/\q.2.1<=16/\q.2.2<=6)->1<=(ef s m).2->7<=(ef s m).1/\(ef s m).1<=16/\(ef s m).2<=6:=by
  intro s m
  induction m with
  |nil=>intro _ h;exact absurd h (by show ¬(1:Int)<=0;decide)
  |
   cons q m ih =>
   intro hm h;unfold ef at h ⊢;split
   .
    exact hm q (List.mem_cons_self ..)
   rename_i hq;rw[if_neg hq] at h;exact ih (λx hx=>hm x (List.mem_cons_of_mem _ hx)) h
 unfold bin at h ⊢
 split
 .
  rename_i ht;rw[if_pos ht] at h;exact key _ _ (by decide) h
 rename_i ht
 rw[if_neg ht] at h
 exact absurd h (by show ¬(1:Int)<=0;decide)
def Grown (nm:List UInt8->Bool) (l:List Tok) (st st':St):Prop :=
 ∃t:T,t.ok nm/\st'.x=st.x++t.post st.x.length/\st.a<st'.a/\st'.a<=(l.length:Int)/\st'.d=st.d/\st'.e=st.e/\st'.f=st.f/\st'.x.length<=200
theorem go_inv {r:fP} {k:St->fP} {st':St} (h:wu r k=some (true,st')):∃s,r=some (true,s)/\k s=some (true,st'):=by
 unfold wu at h
 split at h
 .
  exact ⟨_,rfl,h⟩
 .
  cases h
 cases h
theorem Ae {st:St} {n:Nd} {f:Int} {k:St->fP} {st':St} (h:fK st n f k=some (true,st')):st.x.length≠200/\k { st with x:=st.x++[n] }=some (true,st'):=by
 unfold fK at h
 split at h
 .
  cases h
 rename_i h1;exact ⟨h1,h⟩
theorem GB {st:St} {k:St->fP} {st':St} (h:iJ st k=some (true,st')):k { st with d:=st.d+1,a:=st.a+1 }=some (true,st'):=by
 unfold iJ at h
 split at h
 .
  cases h
 exact h
theorem Af {l:List Tok} {rec:Int->St->fP} (hrec:∀s st st',st.x.length<=200->st.a<=(l.length:Int)->rec s st=some (true,st')->Grown nm l st st') {str:Int} (h1:1<=str):∀(n:Nat) (st0 st st':St),Grown nm l st0 st->bE l rec str n st=some (true,st')->Grown nm l st0 st'
 |0,_,_,_,_,h=>by cases h
 |
  n+1,st0,st,st',hg,h=>by
  unfold bE at h;split at h
  .
   cases h;exact hg
  rename_i tok cw;split at h
  .
   cases h;exact hg
  rename_i aj1;obtain ⟨s2,h2,h3⟩:=go_inv h;obtain ⟨h4,h5⟩:=Ae h3;obtain ⟨t,k1,k2,k3,k4,k5,k6,k7,k8⟩:=hg;have hlt:=dL cw;obtain ⟨u,m1,m2,m3,m4,m5,m6,m7,m8⟩:=hrec _ { st with a:=st.a+1 } _ k8 (by show st.a+1<=_;omega) h2
  have hb:=QI (t:=tok) (by omega)
  refine Af hrec h1 n st0 { s2 with x:=s2.x++[((bin tok).1,0,[],(st.x.length:Int)-1,(s2.x.length:Int)-1)] } st' ?_ h5
  refine ⟨.bi (bin tok).1 t u,⟨hb.1,hb.2.1,k1,m1⟩,?_,by show st0.a<s2.a;have:st.a+1<s2.a:=m3;omega,m4,by show s2.d=_;rw[m5];exact k5,by show s2.e=_;rw[m6];exact k6,by show s2.f=_;rw[m7];exact k7,?_⟩
  .
   show s2.x++[_]=_;have e2:s2.x=st.x++u.post st.x.length:=m2;have el:st.x.length=st0.x.length+t.size:=by rw[k2,List.length_append,T.dK]
   have el2:s2.x.length=st0.x.length+t.size+u.size:=by rw[e2,List.length_append,T.dK,el]
   rw[el2,e2,el,k2];simp only[T.post,List.append_assoc]
  show (s2.x++[_]).length<=200;have:s2.x.length<=200:=m8;simp;omega
theorem fj (l:List Tok):∀(k:Nat) (str:Int) (st st':St),1<=str->st.x.length<=200->st.a<=(l.length:Int)->av nm l k str st=some (true,st')->Grown nm l st st'
 |0,_,_,_,_,_,_,h=>by cases h
 |
  k+1,str,st,st',hs,hx,ha,h=>by
  have h:cY nm l (av nm l k) st (bE l (av nm l k) str (l.length+1))=some (true,st'):=h
  have K8:∀s1,Grown nm l st s1->bE l (av nm l k) str (l.length+1) s1=some (true,st')->Grown nm l st st':=λs1 hg hm =>
   Af (rec:=λs st=>if 1<=s then av nm l k s st else none) (λs a b hxa haa hr=>by
    split at hr
    .
     rename_i h1;exact fj l k s a b h1 hxa haa hr
    cases hr) hs (l.length+1) st s1 st' hg (by
    have:∀n s,bE l (λs st=>if 1<=s then av nm l k s st else none) str n s=bE l (av nm l k) str n s:=by
     intro n
     induction n with
     |zero=>intro s;rfl
     |
      succ n ih =>
      intro s;unfold bE;split
      .
       rfl
      split
      .
       rfl
      rename_i tok _ hlt;rw[if_pos (by omega)]
      congr 1
      funext s2
      rw[show bE l (λs st=>if 1<=s then av nm l k s st else none) str n=bE l (av nm l k) str n from funext ih]
    rw[this];exact hm)
  unfold cY at h;split at h
  .
   cases h
  rename_i tok cw;have hlt:=dL cw;split at h
  .
   rename_i n hn;obtain ⟨h4,h5⟩:=Ae h;refine K8 { st with a:=st.a+1,x:=st.x++[n] } ⟨.leaf n,Ut hn,rfl,by show st.a<st.a+1;omega,by show st.a+1<=_;omega,rfl,rfl,rfl,?_⟩ h5
   show (st.x++[n]).length<=200;have:st.x.length≠200:=h4;simp;omega
  split at h
  .
   rename_i op hp;have h:=GB h;obtain ⟨s2,h2,h3⟩:=go_inv h;obtain ⟨u,m1,m2,m3,m4,m5,m6,m7,m8⟩:=fj l k 7 { st with d:=st.d+1,a:=st.a+1 } s2 (by decide) hx (by show st.a+1<=_;omega) h2
   have m3:st.a+1<s2.a:=m3;have m5:s2.d=st.d+1:=m5;split at h3
   .
    refine K8 { s2 with d:=s2.d-1 } ⟨u,m1,m2,by show st.a<s2.a;omega,m4,by show s2.d-1=st.d;omega,m6,m7,m8⟩ h3
   rename_i hop;obtain ⟨h4,h5⟩:=Ae h3;have h4:s2.x.length≠200:=h4;refine K8 { s2 with d:=s2.d-1,x:=s2.x++[(op,0,[],(s2.x.length:Int)-1,0)] } ⟨.un op u,⟨by have:=Uu hp;omega,m1⟩,?_,by show st.a<s2.a;omega,m4,by show s2.d-1=st.d;omega,m6,m7,?_⟩ h5
   .
    show s2.x++[_]=_;have e2:s2.x=st.x++u.post st.x.length:=m2;rw[e2];simp[T.post,T.dK]
   show (s2.x++[_]).length<=200;have:s2.x.length<=200:=m8;simp;omega
  split at h
  .
   have h:=GB h;obtain ⟨s2,h2,h3⟩:=go_inv h;obtain ⟨u,m1,m2,m3,m4,m5,m6,m7,m8⟩:=fj l k 1 { st with d:=st.d+1,a:=st.a+1 } s2 (by decide) hx (by show st.a+1<=_;omega) h2
   have m3:st.a+1<s2.a:=m3;have m5:s2.d=st.d+1:=m5;split at h3
   .
    cases h3
   rename_i c hc;have YD:=dL hc;split at h3
   .
    exact K8 { s2 with d:=s2.d-1,a:=s2.a+1 } ⟨u,m1,m2,by show st.a<s2.a+1;omega,by show s2.a+1<=_;omega,by show s2.d-1=st.d;omega,m6,m7,m8⟩ h3
   cases h3
  cases h
theorem go_some {r:fP} {k:St->fP} (h:∃x,r=some x) (hk:∀s,r=some (true,s)->∃y,k s=some y):∃y,wu r k=some y:=by
 obtain ⟨⟨b,s⟩,rfl⟩:=h
 cases b with
 |true=>exact hk s rfl
 |false=>exact ⟨_,rfl⟩
theorem wA {st:St} {n:Nd} {f:Int} {k:St->fP} (hk:st.x.length≠200->∃y,k { st with x:=st.x++[n] }=some y):∃y,fK st n f k=some y:=by
 unfold fK
 split
 .
  exact ⟨_,rfl⟩
 rename_i h;exact hk h
theorem CF {st:St} {k:St->fP} (hk:∃y,k { st with d:=st.d+1,a:=st.a+1 }=some y):∃y,iJ st k=some y:=by
 unfold iJ
 split
 .
  exact ⟨_,rfl⟩
 exact hk
theorem mN (l:List Tok):∀(k:Nat) (str:Int) (st:St),1<=str->st.x.length<=200->0<=st.a->st.a<=(l.length:Int)->(l.length:Int)-st.a<k->∃r,av nm l k str st=some r
 |0,_,_,_,_,_,_,h=>by omega
 |
  k+1,str,st,hs,hx,h0,ha,hk=>by
  have more:∀(n:Nat) (s:St),s.x.length<=200->st.a<s.a->s.a<=(l.length:Int)->(l.length:Int)-s.a<n->∃r,bE l (av nm l k) str n s=some r:=by
   intro n
   induction n with
   |zero=>intro s _ _ _ h;omega
   |
    succ n ih =>
    intro s hsx hsa hsl hn;unfold bE;split
    .
     exact ⟨_,rfl⟩
    rename_i tok cw;have hlt:=dL cw;split
    .
     exact ⟨_,rfl⟩
    refine go_some (mN l k _ { s with a:=s.a+1 } (by omega) hsx (by show 0<=s.a+1;omega) (by show s.a+1<=_;omega) (by show _-(s.a+1)<_;omega)) λs2 h2=>wA λhne=>?_
    obtain ⟨u,m1,m2,m3,m4,m5,m6,m7,m8⟩:=fj l k _ { s with a:=s.a+1 } s2 (by omega) hsx (by show s.a+1<=_;omega) h2
    have m3:s.a+1<s2.a:=m3;exact ih _ (by show (s2.x++[_]).length<=200;simp;omega) (by show st.a<s2.a;omega) m4 (by show _-s2.a<_;omega)
  show ∃r,cY nm l (av nm l k) st (bE l (av nm l k) str (l.length+1))=some r;unfold cY;split
  .
   exact ⟨_,rfl⟩
  rename_i tok cw;have hlt:=dL cw;split
  .
   exact wA λhne=>more _ _ (by show (st.x++[_]).length<=200;have:st.x.length≠200:=hne;simp;omega) (by show st.a<st.a+1;omega) (by show st.a+1<=_;omega) (by show _-(st.a+1)<_;omega)
  split
  .
   refine CF (go_some (mN l k 7 { st with d:=st.d+1,a:=st.a+1 } (by decide) hx (by show 0<=st.a+1;omega) (by show st.a+1<=_;omega) (by show _-(st.a+1)<_;omega)) λs2 h2=>?_)
   obtain ⟨u,m1,m2,m3,m4,m5,m6,m7,m8⟩:=fj l k _ { st with d:=st.d+1,a:=st.a+1 } s2 (by decide) hx (by show st.a+1<=_;omega) h2
   have m3:st.a+1<s2.a:=m3;split
   .
    exact more _ _ m8 (by show st.a<s2.a;omega) m4 (by show _-s2.a<_;omega)
   exact wA λhne=>more _ _ (by show (s2.x++[_]).length<=200;have:s2.x.length≠200:=hne;simp;omega) (by show st.a<s2.a;omega) m4 (by show _-s2.a<_;omega)
  split
  .
   refine CF (go_some (mN l k 1 { st with d:=st.d+1,a:=st.a+1 } (by decide) hx (by show 0<=st.a+1;omega) (by show st.a+1<=_;omega) (by show _-(st.a+1)<_;omega)) λs2 h2=>?_)
   obtain ⟨u,m1,m2,m3,m4,m5,m6,m7,m8⟩:=fj l k _ { st with d:=st.d+1,a:=st.a+1 } s2 (by decide) hx (by show st.a+1<=_;omega) h2
   have m3:st.a+1<s2.a:=m3;split
   .
    exact ⟨_,rfl⟩
   rename_i c hc;have YD:=dL hc;split
   .
    exact more _ _ m8 (by show st.a<s2.a+1;omega) (by show s2.a+1<=_;omega) (by show _-(s2.a+1)<_;omega)
   exact ⟨_,rfl⟩
  exact ⟨_,rfl⟩
end Go.Px

namespace Go.Px
variable {nm:List UInt8->Bool}
def iQ (nm:List UInt8->Bool) (n:Nd):Bool :=
 decide (1<=n.1)&&decide (n.1<=16)&&(decide (n.1=1)||decide (n.2.1=0))&&(if n.1=2 then nm n.2.2.1 else decide (n.2.2.1=[]))&&(!decide (n.1<=4)||decide (n.2.2.2.1=0))&&(decide (6<n.1)||decide (n.2.2.2.2=0))
def GD (i:Int) (n:Nd) (o:List Int):Option (List Int) :=
 if n.1<=4 then some (o++[i])
 else if n.1<=6 then (if o.length<1\/o[o.length-1]? ≠ some n.2.2.2.1 then none else some (o.take (o.length-1)++[i]))
 else (if o.length<2\/o[o.length-2]? ≠ some n.2.2.2.1\/o[o.length-1]? ≠ some n.2.2.2.2 then none else some (o.take (o.length-2)++[i]))
def tD (nm:List UInt8->Bool):Nat->List Nd->List Int->Int
 |_,[],o=>if o.length=1 then 0 else 2
 |
  i,n::r,o=>if iQ nm n=true then (match GD i n o with
  |some o'=>tD nm (i+1) r o'
  |none=>2) else 2
def MU (nm:List UInt8->Bool) (x:List Nd):Int:=if 200<x.length then 3 else tD nm 0 x []
def pJ:List T->Nat
 |[]=>0
 |t::r=>pJ r+t.size
def qJ:List T->List Nd
 |[]=>[]
 |t::r=>qJ r++t.post (pJ r)
def eC:List T->List Int
 |[]=>[]
 |t::r=>eC r++[((pJ r+t.size:Nat):Int)-1]
theorem wD:∀r:List T,(qJ r).length=pJ r
 |[]=>rfl
 |t::r=>by rw[qJ,List.length_append,wD r,T.dK,pJ]
theorem wE:∀r:List T,(eC r).length=r.length
 |[]=>rfl
 |t::r=>by rw[eC,List.length_append,wE r];rfl
theorem GF {n:Nd} (h:iQ nm n=true) (h4:n.1<=4):Ad nm n:=by
 obtain ⟨op,k,s,L,R⟩:=n
 simp only[iQ,Bool.and_eq_true,Bool.or_eq_true,decide_eq_true_eq,Bool.not_eq_true',decide_eq_false_iff_not] at h
 simp only at h4
 obtain ⟨⟨⟨⟨⟨h1,h2⟩,h3⟩,h5⟩,h6⟩,h7⟩:=h
 have hL:L=0:=by omega
 have hR:R=0:=by omega
 subst hL;subst hR
 obtain rfl|rfl|rfl|rfl:op=1\/op=2\/op=3\/op=4:=by omega
 .
  rw[if_neg (by decide)] at h5
  have:s=[]:=of_decide_eq_true h5;subst this;exact .inl ⟨k,rfl⟩
 .
  have:k=0:=by omega
  subst this;rw[if_pos rfl] at h5;exact .inr (.inl ⟨s,rfl,h5⟩)
 .
  have:k=0:=by omega
  subst this;rw[if_neg (by decide)] at h5
  have:s=[]:=of_decide_eq_true h5;subst this;exact .inr (.inr (.inl rfl))
 have:k=0:=by omega
 subst this
 rw[if_neg (by decide)] at h5
 have:s=[]:=of_decide_eq_true h5
 subst this;exact .inr (.inr (.inr rfl))
theorem MV {n:Nd} (h:iQ nm n=true) (h4:¬n.1<=4):n.2.1=0/\n.2.2.1=[]/\n.1<=16/\(n.1<=6->n.2.2.2.2=0):=by
 obtain ⟨op,k,s,L,R⟩:=n
 simp only[iQ,Bool.and_eq_true,Bool.or_eq_true,decide_eq_true_eq,Bool.not_eq_true',decide_eq_false_iff_not] at h
 simp only at h4 ⊢
 obtain ⟨⟨⟨⟨⟨h1,h2⟩,h3⟩,h5⟩,h6⟩,h7⟩:=h
 rw[if_neg (by omega)] at h5
 exact ⟨by omega,of_decide_eq_true h5,h2,λh=>by omega⟩
theorem Ai (o:List Int) (a:Int):(o++[a])[(o++[a]).length-1]? = some a:=by simp
theorem CK (o:List Int) (a:Int):(o++[a]).take ((o++[a]).length-1)=o:=by simp
theorem Aj:∀(x:List Nd) (f:List T),(∀t∈f,t.ok nm)->tD nm (pJ f) x (eC f)=0->∃t:T,t.ok nm/\qJ f++x=t.post 0
 |
  [],f,hok,h=>by
  unfold tD at h;split at h
  .
   rename_i hl;rw[wE] at hl
   match f,hl with
   |[t],_=>exact ⟨t,hok t (by simp),by simp[qJ,pJ]⟩
  exact absurd h (by decide)
 |
  n::x,f,hok,h=>by
  unfold tD at h;split at h
  .
   rename_i hf;split at h
   .
    rename_i o' ho
    have go:∀(f':List T),(∀t∈f',t.ok nm)->qJ f'=qJ f++[n]->eC f'=o'->∃t:T,t.ok nm/\qJ f++(n::x)=t.post 0:=λf' hok' hp hr=>by
     have hsz:pJ f'=pJ f+1:=by rw[<-wD,hp,List.length_append,wD];rfl
     rw[<-hr,<-hsz] at h;obtain ⟨t,k1,k2⟩:=Aj x f' hok' h;exact ⟨t,k1,by rw[<-k2,hp];simp⟩
    unfold GD at ho;split at ho
    .
     rename_i h4;cases ho;refine go (.leaf n::f) (λt ht=>?_) rfl ?_
     .
      rcases List.mem_cons.1 ht with rfl|ht
      .
       exact GF hf h4
      exact hok t ht
     simp only[eC,T.size];congr 2;omega
    rename_i h4;obtain ⟨e1,e2,e3,e4⟩:=MV hf h4;obtain ⟨op,k,s,L,R⟩:=n;simp only at e1 e2 e3 e4 h4;subst e1;subst e2;split at ho
    .
     rename_i h6;simp only at h6;have hR:=e4 h6;subst hR;split at ho
     .
      cases ho
     rename_i hc;cases ho
     match f,hok with
     |[],_=>exact absurd (Or.inl (by simp[eC])) hc
     |
      a::r,hok =>
      have hL:(eC (a::r))[(eC (a::r)).length-1]? = some L:=Classical.byContradiction λhn=>hc (.inr hn)
      rw[eC,Ai] at hL;have hL:=Option.some.inj hL;refine go (.un op a::r) (λt ht=>?_) ?_ ?_
      .
       rcases List.mem_cons.1 ht with rfl|ht
       .
        exact ⟨by omega,hok a (by simp)⟩
       exact hok t (by simp[ht])
      .
       simp only[qJ,T.post,hL,List.append_assoc]
      rw[eC,eC,CK];simp only[T.size,pJ];congr 2;omega
    rename_i h6;simp only at h6;split at ho
    .
     cases ho
    rename_i hc;cases ho
    match f,hok with
    |[],_=>exact absurd (Or.inl (by simp[eC])) hc
    |[_],_=>exact absurd (Or.inl (by simp[eC])) hc
    |
     b::a::r,hok =>
     have hlen:(eC (b::a::r)).length=(eC r).length+2:=by simp[wE]
     have hR:(eC (b::a::r))[(eC (b::a::r)).length-1]? = some R:=Classical.byContradiction λhn=>hc (.inr (.inr hn))
     have hL:(eC (b::a::r))[(eC (b::a::r)).length-2]? = some L:=Classical.byContradiction λhn=>hc (.inr (.inl hn))
     rw[eC,Ai] at hR;have hR:=Option.some.inj hR;rw[hlen,eC,eC] at hL;simp only[Nat.add_sub_cancel,List.append_assoc] at hL;rw[List.getElem?_append_right (Nat.le_refl _)] at hL;simp only[Nat.sub_self,List.singleton_append,List.getElem?_cons_zero] at hL;have hL:=Option.some.inj hL;refine go (.bi op a b::r) (λt ht=>?_) ?_ ?_
     .
      rcases List.mem_cons.1 ht with rfl|ht
      .
       exact ⟨by omega,e3,hok a (by simp),hok b (by simp)⟩
      exact hok t (by simp[ht])
     .
      simp only[qJ,pJ] at hL hR ⊢;simp only[T.post,hL,hR,List.append_assoc]
     have e2:(eC (b::a::r)).take ((eC (b::a::r)).length-2)=eC r:=by
      rw[hlen,eC,eC];simp
     rw[e2,eC];simp only[T.size,pJ];congr 2;omega
   exact absurd h (by decide)
  exact absurd h (by decide)
theorem adn {x:List Nd} (h:MU nm x=0):∃t:T,t.ok nm/\x=t.post 0/\x.length<=200:=by
 unfold MU at h
 split at h
 .
  exact absurd h (by decide)
 rename_i hl
 obtain ⟨t,h1,h2⟩:=Aj x [] (λt ht=>by simp at ht) h
 exact ⟨t,h1,by simpa[qJ] using h2,by omega⟩
theorem GG {n:Nd} (h:Ad nm n):iQ nm n=true/\n.1<=4:=by
 rcases h with ⟨k,rfl⟩|⟨s,rfl,hs⟩|rfl|rfl
 .
  exact ⟨by simp[iQ],by show (1:Int)<=4;decide⟩
 .
  exact ⟨by simp[iQ,hs],by show (2:Int)<=4;decide⟩
 .
  exact ⟨by simp[iQ],by show (3:Int)<=4;decide⟩
 exact ⟨by simp[iQ],by show (4:Int)<=4;decide⟩
theorem uO:∀(t:T),t.ok nm->∀(i:Nat) (r:List Nd) (o:List Int),tD nm i (t.post i++r) o=tD nm (i+t.size) r (o++[((i+t.size:Nat):Int)-1])
 |
  .leaf n,h,i,r,o=>by
  obtain ⟨h1,h2⟩:=GG h;show tD nm i (n::r) o=_;rw[tD,if_pos h1];unfold GD;rw[if_pos h2];simp only[T.size]
  congr 3;omega
 |
  .un op a,⟨hop,ha⟩,i,r,o=>by
  have e:(T.un op a).post i++r=a.post i++((op,0,[],((i+a.size:Nat):Int)-1,0)::r):=by simp[T.post]
  rw[e,uO a ha,tD,if_pos (by rcases hop with rfl|rfl<;>simp[iQ])]
  unfold GD;simp only;rw[if_neg (by omega),if_pos (by omega),if_neg (by rw[Ai];simp),CK]
  show tD nm (i+a.size+1) r (o++[((i+a.size:Nat):Int)])=tD nm (i+a.size+1) r (o++[((i+a.size+1:Nat):Int)-1]);rw[show ((i+a.size+1:Nat):Int)-1=((i+a.size:Nat):Int) by omega]
 |
  .bi op u v,⟨h7,YC,hu,hv⟩,i,r,o=>by
  have e:(T.bi op u v).post i++r=u.post i++(v.post (i+u.size)++((op,0,[],((i+u.size:Nat):Int)-1,((i+u.size+v.size:Nat):Int)-1)::r)):=by simp[T.post]
  rw[e,uO u hu,uO v hv,tD,if_pos (by
   simp only[iQ,Bool.and_eq_true,Bool.or_eq_true,decide_eq_true_eq,Bool.not_eq_true',decide_eq_false_iff_not];rw[if_neg (by omega)]
   refine ⟨⟨⟨⟨⟨by omega,by omega⟩,.inr trivial⟩,by simp⟩,.inl (by omega)⟩,.inl (by omega)⟩)]
  unfold GD;simp only;rw[if_neg (by omega),if_neg (by omega),if_neg (by simp)]
  have et:(o++[((i+u.size:Nat):Int)-1]++[((i+u.size+v.size:Nat):Int)-1]).take ((o++[((i+u.size:Nat):Int)-1]++[((i+u.size+v.size:Nat):Int)-1]).length-2)=o:=by simp
  rw[et];show tD nm (i+u.size+v.size+1) r (o++[((i+u.size+v.size:Nat):Int)])=tD nm (i+(u.size+v.size+1)) r (o++[((i+(u.size+v.size+1):Nat):Int)-1]);rw[show i+(u.size+v.size+1)=i+u.size+v.size+1 by omega,show ((i+u.size+v.size+1:Nat):Int)-1=((i+u.size+v.size:Nat):Int) by omega]
theorem MW {t:T} (h:t.ok nm) (hs:t.size<=200):MU nm (t.post 0)=0:=by
 unfold MU
 rw[T.dK,if_neg (by omega)]
 have:=uO t h 0 [] []
 rw[List.append_nil] at this
 rw[this]
 rfl
def Ak (x:List Nd):Nat->Int->Bool->Option (List Tok)
 |0,_,_=>none
 |
  k+1,a,w=>match at? x a with
  |none=>none
  |
   some n =>
   if n.1=1 then some [(2,n.2.1,[],0)]
   else if n.1=2 then some [(1,0,n.2.2.1,0)]
   else if n.1<=4 then some [dN (bC n.1)]
   else if n.1<=6 then (match Ak x k n.2.2.2.1 false with
    |some u=>some (dN (bC n.1)::u)
    |none=>none)
   else (match Ak x k n.2.2.2.1 false,Ak x k n.2.2.2.2 false with
    |some u,some v=>some ((if w then [] else [dN [40]])++(u++(dN (bC n.1)::(v++(if w then [] else [dN [41]])))))
    |_,_=>none)
theorem wF:∀(t:T),t.ok nm->∀(x p r:List Nd) (k:Nat) (w:Bool),x=p++(t.post p.length++r)->t.size<=k->Ak x k (((p.length+t.size:Nat):Int)-1) w=some (t.toks w)
 |
  .leaf n,h,x,p,r,k,w,hx,hk=>by
  obtain ⟨k,rfl⟩:∃k',k=k'+1:=⟨k-1,by simp only[T.size] at hk;omega⟩
  have cw:at? x (((p.length+1:Nat):Int)-1)=some n:=by
   have:((p.length+1:Nat):Int)-1=((p.length:Nat):Int):=by omega
   rw[this,hx];exact jH p r n
  simp only[T.size];unfold Ak;rw[cw];rcases h with ⟨k,rfl⟩|⟨s,rfl,hs⟩|rfl|rfl<;>rfl
 |
  .un op a,⟨hop,ha⟩,x,p,r,k,w,hx,hk=>by
  obtain ⟨k,rfl⟩:∃k',k=k'+1:=⟨k-1,by simp only[T.size] at hk;omega⟩
  have hx1:x=p++(a.post p.length++((op,0,[],((p.length+a.size:Nat):Int)-1,0)::r)):=by rw[hx];simp[T.post]
  have cw:at? x (((p.length+(a.size+1):Nat):Int)-1)=some (op,0,[],((p.length+a.size:Nat):Int)-1,0):=by
   have e1:((p.length+(a.size+1):Nat):Int)-1=(((p++a.post p.length).length:Nat):Int):=by simp[T.dK];omega
   rw[e1,hx1,<-List.append_assoc];exact jH _ _ _
  have ih:=wF a ha x p _ k false hx1 (by simp only[T.size] at hk;omega)
  simp only[T.size];unfold Ak;rw[cw];simp only;rw[if_neg (by omega),if_neg (by omega),if_neg (by omega),if_pos (by omega),ih]
  rfl
 |
  .bi op u v,⟨h7,YC,hu,hv⟩,x,p,r,k,w,hx,hk=>by
  obtain ⟨k,rfl⟩:∃k',k=k'+1:=⟨k-1,by simp only[T.size] at hk;omega⟩
  have hx1:x=p++(u.post p.length++(v.post (p.length+u.size)++((op,0,[],((p.length+u.size:Nat):Int)-1,((p.length+u.size+v.size:Nat):Int)-1)::r))):=by rw[hx];simp[T.post]
  have hpl:(p++u.post p.length).length=p.length+u.size:=by simp[T.dK]
  have hx2:x=(p++u.post p.length)++(v.post (p++u.post p.length).length++((op,0,[],((p.length+u.size:Nat):Int)-1,((p.length+u.size+v.size:Nat):Int)-1)::r)):=by rw[hpl,hx1];simp
  have cw:at? x (((p.length+(u.size+v.size+1):Nat):Int)-1)=some (op,0,[],((p.length+u.size:Nat):Int)-1,((p.length+u.size+v.size:Nat):Int)-1):=by
   have e1:((p.length+(u.size+v.size+1):Nat):Int)-1=((((p++u.post p.length)++v.post (p.length+u.size)).length:Nat):Int):=by simp[T.dK];omega
   rw[e1,hx1];have:p++(u.post p.length++(v.post (p.length+u.size)++((op,0,[],((p.length+u.size:Nat):Int)-1,((p.length+u.size+v.size:Nat):Int)-1)::r)))=((p++u.post p.length)++v.post (p.length+u.size))++((op,0,[],((p.length+u.size:Nat):Int)-1,((p.length+u.size+v.size:Nat):Int)-1)::r):=by simp
   rw[this];exact jH _ _ _
  have ih1:=wF u hu x p _ k false hx1 (by simp only[T.size] at hk;omega)
  have ih2:=wF v hv x (p++u.post p.length) _ k false hx2 (by simp only[T.size] at hk;omega)
  rw[hpl] at ih2;simp only[T.size];unfold Ak;rw[cw];simp only;rw[if_neg (by omega),if_neg (by omega),if_neg (by omega),if_neg (by omega),ih1,ih2]
  rfl
def fB (nm:List UInt8->Bool) (l:List Tok) (a:Int):Option (List Nd×Int×Int×Int) :=
 if a<0\/(l.length:Int)<a then some ([],0,2,0) else
 match av nm l (l.length+1) 1 ⟨a,0,[],0,0⟩ with
 |some (true,st)=>some (st.x,st.a,0,0)
 |some (false,st)=>some ([],0,st.e,st.f)
 |none=>none
theorem o6 (l:List Tok) (a:Int):∃r,fB nm l a=some r:=by
 unfold fB
 split
 .
  exact ⟨_,rfl⟩
 rename_i h
 obtain ⟨⟨b,st⟩,hr⟩:=mN (nm:=nm) l (l.length+1) 1 ⟨a,0,[],0,0⟩ (by decide) (by simp) (by show 0<=a;omega) (by show a<=_;omega) (by show _-a<_;omega)
 rw[hr]
 cases b<;>exact ⟨_,rfl⟩
def lu (r:fP):Prop:=∀st,r=some (false,st)->st.e≠0
theorem wG (st:St) {e:Int} (f:Int) (h:e≠0):lu (pI st e f):=λs hs=>by cases hs;exact h
theorem go_f {r:fP} {k:St->fP} (h:lu r) (hk:∀s,lu (k s)):lu (wu r k):=λst hs=>by
 unfold wu at hs
 split at hs
 .
  exact hk _ st hs
 .
  cases hs;exact h _ rfl
 cases hs
theorem Jq {st:St} {n:Nd} {f:Int} {k:St->fP} (hk:∀s,lu (k s)):lu (fK st n f k):=by
 unfold fK
 split
 .
  exact wG _ _ (by decide)
 exact hk _
theorem Q0 {st:St} {k:St->fP} (hk:∀s,lu (k s)):lu (iJ st k):=by
 unfold iJ
 split
 .
  exact wG _ _ (by decide)
 exact hk _
theorem Q4 {l:List Tok} {rec:Int->St->fP} (hr:∀s st,lu (rec s st)) (str:Int):∀(n:Nat) (st:St),lu (bE l rec str n st)
 |0,st=>λ_ h=>by cases h
 |
  n+1,st=>by
  unfold bE;split
  .
   intro _ h;cases h
  split
  .
   intro _ h;cases h
  exact go_f (hr _ _) λs=>Jq λs=>Q4 hr str n s
theorem yq (l:List Tok):∀(k:Nat) (str:Int) (st:St),lu (av nm l k str st)
 |0,_,_=>λ_ h=>by cases h
 |
  k+1,str,st=>by
  have ih:=yq l k;show lu (cY nm l (av nm l k) st (bE l (av nm l k) str (l.length+1)));have hm:=Q4 (l:=l) ih str (l.length+1);unfold cY;split
  .
   exact wG _ _ (by decide)
  split
  .
   exact Jq hm
  split
  .
   refine Q0 λs=>go_f (ih _ _) λs=>?_
   split
   .
    exact hm _
   exact Jq hm
  split
  .
   refine Q0 λs=>go_f (ih _ _) λs=>?_
   split
   .
    exact wG _ _ (by decide)
   split
   .
    exact hm _
   exact wG _ _ (by decide)
  exact wG _ _ (by decide)
theorem uP {l:List Tok} {a:Int} {y:List Nd} {e f g:Int} (h:fB nm l a=some (y,e,f,g)):(f≠0->y=[]/\e=0)/\(f=0->MU nm y=0/\a<e/\e<=(l.length:Int)):=by
 unfold fB at h
 split at h
 .
  cases h;exact ⟨λ_=>⟨rfl,rfl⟩,λh=>absurd h (by decide)⟩
 rename_i ha
 split at h
 .
  rename_i st hc;cases h;refine ⟨λh=>absurd rfl h,λ_=>?_⟩
  obtain ⟨t,h1,h2,h3,h4,h5,_,_,h8⟩:=fj l _ 1 ⟨a,0,[],0,0⟩ st (by decide) (by simp) (by show a<=_;omega) hc
  have h2:st.x=t.post 0:=by rw[h2];rfl
  refine ⟨?_,h3,h4⟩;rw[h2] at h8 ⊢;exact MW h1 (by rw[T.dK] at h8;exact h8)
 .
  rename_i st hc;cases h;exact ⟨λ_=>⟨rfl,rfl⟩,λh=>absurd h (yq l _ _ _ st hc)⟩
 cases h
theorem T.rL:∀(t:T),t.need<=(t.toks false).length
 |.leaf _=>Nat.zero_le _
 |.un _ a=>by have:=a.rL;simp only[T.need,T.toks,List.length_cons];omega
 |
  .bi _ u v=>by
  have h1:=u.rL;have h2:=v.rL;simp[T.need,T.toks];omega
theorem YG {t:T} (h:t.ok nm):(∃f,fB nm (t.toks true) 0=some ([],0,3,f))\/fB nm (t.toks true) 0=some (t.post 0,((t.toks true).length:Int),0,0):=by
 have key:Jn (av nm (t.toks true) ((t.toks true).length+1) 1 ⟨0,0,[],0,0⟩)\/av nm (t.toks true) ((t.toks true).length+1) 1 ⟨0,0,[],0,0⟩=some (true,⟨((t.toks true).length:Int),0,t.post 0,0,0⟩):=by
  have hc:∀k s st',av nm (t.toks true) (k+1) s st'=cY nm (t.toks true) (av nm (t.toks true) k) st' (bE (t.toks true) (av nm (t.toks true) k) s ((t.toks true).length+1)):=λ_ _ _=>rfl
  have one:t.toks true=t.toks false->Jn (av nm (t.toks true) ((t.toks true).length+1) 1 ⟨0,0,[],0,0⟩)\/av nm (t.toks true) ((t.toks true).length+1) 1 ⟨0,0,[],0,0⟩=some (true,⟨((t.toks true).length:Int),0,t.post 0,0,0⟩):=λe=>by
   rw[hc];rcases mb t h (t.toks true) [] [] (t.toks true).length ⟨0,0,[],0,0⟩ (bE (t.toks true) (av nm (t.toks true) (t.toks true).length) 1 ((t.toks true).length+1)) (by rw[e];simp) rfl (by rw[e];exact t.rL) with h1|h1
   .
    exact .inl h1
   right
   rw[h1,gU (p:=t.toks true) (wz:=[]) (by simp) (by rw[e];simp) trivial]
   rw[e];simp
  cases t with
  |leaf n=>exact one rfl
  |un op a=>exact one rfl
  |
   bi op u v =>
   obtain ⟨h7,YC,hu,hv⟩:=h;obtain ⟨b1,b2,b3⟩:=GA op h7 YC;generalize hl:(T.bi op u v).toks true=l at hc;have H9:l=[]++(u.toks false++(dN (bC op)::(v.toks false))):=by rw[<-hl];simp[T.toks]
   have hlen:l.length=(u.toks false).length+(v.toks false).length+1:=by rw[H9];simp;omega
   obtain ⟨m,hm⟩:∃m,l.length=m+1:=⟨l.length-1,by omega⟩
   have n1:=u.rL;have n2:=v.rL;rw[hc,hm];rcases mb u hu l [] _ (m+1) ⟨0,0,[],0,0⟩ (bE l (av nm l (m+1)) 1 (m+1+1)) H9 rfl (by omega) with h1|h1
   .
    exact .inl h1
   rw[h1]
   have cw:at? l ((([]:List Tok).length+(u.toks false).length:Nat):Int)=some (dN (bC op)):=by
    rw[H9,List.nil_append];simp only[List.length_nil,Nat.zero_add];exact jH _ _ _
   have step:bE l (av nm l (m+1)) 1 (m+1+1) { a:=((([]:List Tok).length+(u.toks false).length:Nat):Int),d:=0,x:=[]++u.post ([]:List Nd).length,e:=0,f:=0 } =
    wu (av nm l (m+1) ((bin (dN (bC op))).2+1) { a:=((([]:List Tok).length+(u.toks false).length:Nat):Int)+1,d:=0,x:=[]++u.post ([]:List Nd).length,e:=0,f:=0 }) λs2 =>
     fK s2 ((bin (dN (bC op))).1,0,[],(([]++u.post ([]:List Nd).length).length:Int)-1,s2.x.length-1) ((([]:List Tok).length+(u.toks false).length:Nat):Int) (bE l (av nm l (m+1)) 1 (m+1)):=by
    conv=>lhs;unfold bE
    simp only[cw];rw[if_neg (by omega)]
   rw[step,b1,hc];have vo:l=(u.toks false++[dN (bC op)])++(v.toks false++[]):=by rw[H9];simp
   rcases mb v hv l (u.toks false++[dN (bC op)]) [] m { a:=((([]:List Tok).length+(u.toks false).length:Nat):Int)+1,d:=0,x:=[]++u.post ([]:List Nd).length,e:=0,f:=0 } (bE l (av nm l m) ((bin (dN (bC op))).2+1) (l.length+1)) vo (by simp) (by omega) with h2|h2
   .
    exact .inl (go_long h2)
   rw[h2,gU (p:=l) (wz:=[]) (by simp) (by simp[hlen];omega) trivial]
   simp only[wu]
   rcases yp (st:={ a:=(((u.toks false++[dN (bC op)]).length+(v.toks false).length:Nat):Int),d:=0,x:=[]++u.post ([]:List Nd).length++v.post ([]++u.post ([]:List Nd).length).length,e:=0,f:=0 })
    (n:=(op,0,[],(([]++u.post ([]:List Nd).length).length:Int)-1,(([]++u.post ([]:List Nd).length++v.post ([]++u.post ([]:List Nd).length).length).length:Int)-1)) (f:=((([]:List Tok).length+(u.toks false).length:Nat):Int)) (k:=bE l (av nm l (m+1)) 1 (m+1)) with h3|h3
   .
    exact .inl h3
   right
   rw[h3,gU (p:=l) (wz:=[]) (by simp) (by simp[hlen];omega) trivial]
   simp only[Option.some.injEq,Prod.mk.injEq,true_and,St.mk.injEq,and_true];refine ⟨by simp[hlen];omega,?_⟩
   simp[T.post,T.dK]
 unfold fB
 rw[if_neg (by omega)]
 rcases key with ⟨st,h1,h2⟩|h1
 .
  rw[h1];exact .inl ⟨st.f,by rw[<-h2]⟩
 rw[h1]
 exact .inr rfl
end Go.Px

namespace Go.Pp
open Go.Px
abbrev Rg:=Int×Int
abbrev Mm:=(Int×Int)×(Int×Int)×Int×Int×Int
abbrev Raw:=Int×(Int×Int)×((Int×Int)×(Int×Int)×Int×Int×Int)×List Nd×Bool
def La:List (List UInt8×Int×Int):=[([98,121,116,101],1,0),([119,111,114,100],2,0),([100,119,111,114,100],4,0),([113,119,111,114,100],8,0),([111,119,111,114,100],16,0),([121,119,111,114,100],32,0),([115,104,111,114,116],0,1),([110,101,97,114],0,2),([115,116,114,105,99,116],0,3)]
def jI (t:Tok):Int×Int:=if t.1=1 then ef t.2.2.1 La else (0,0)
def gK (t:Tok) (s:List UInt8):Bool:=decide (t.1=1)&&decide (t.2.2.1=s)
def aM (l:List Tok) (a:Int) (s:List UInt8):Bool:=match at? l a with
 |some t=>iI t s
 |none=>false
def xC (t:Tok):Bool := !decide (t.1=4)||(decide (t.2.2.1=[36])||(decide (t.2.2.1=[36,36])||decide (t.2.2.1=[41])))
def ny (op:Int):Bool:=decide (op=53)||(decide (op=54)||decide (68<=op/\op<=83))
def qK (c n:Int):Bool:=decide (c=5/\0<=n/\n<16)
def sizedB (n:Int):Bool:=decide (n=0\/n=1\/n=2\/n=4\/n=8\/n=16\/n=32)
def jJ (n:Int):Bool:=decide (n=1\/n=2\/n=4\/n=8)
def qL (c n:Int):Bool:=decide (c=0)&&decide (n=0)
def GI (c n:Int):Bool:=decide (c=8)&&decide (n=0)
def nL (c n:Int):Bool:=decide (c=5)&&decide (n=4)
def GJ (bc bn ic ix sc d sz:Int):Int :=
 if d < -2147483648\/2147483647<d then 5
 else if sizedB sz=false then 2
 else if qL bc bn=false/\GI bc bn=false/\qK bc bn=false then 2
 else if qL ic ix=true then (if sc=0 then 0 else 2)
 else if qK ic ix=false\/jJ sc=false\/GI bc bn=true then 2
 else if nL ic ix=true/\(sc≠1\/nL bc bn=true) then 2
 else 0
def gL:List Tok->Int->Int->Option Int
 |[],_,_=>none
 |
  t::r,a,d=>if iI t [40]=true then gL r (a+1) (d+1) else if iI t [41]=true then gL r (a+1) (if 0<d-1 then d-1 else 0)
  else if d=0/\iI t [93]=true then some a else gL r (a+1) d
def jR (e:Int):Tok->List Tok->Int->Int->Int
 |_,[],_,_=>e
 |
  p,t::r,a,d=>if iI t [40]=true then jR e t r (a+1) (d+1) else if iI t [41]=true then jR e t r (a+1) (if 0<d-1 then d-1 else 0)
  else if d=0/\(iI t [43]=true\/iI t [45]=true)/\xC p=true then a else jR e t r (a+1) d
def Bx:Tok:=(0,0,[],0)
def ep (l:List Tok) (a:Int):Option Int:=gL (l.drop a.toNat) a 0
def bH (l:List Tok) (a e:Int):Int:=jR e ((at? l (a-1)).getD Bx) ((l.take e.toNat).drop a.toNat) a 0
structure TS where
 bc:Int
 bn:Int
 ic:Int
 ix:Int
 sc:Int
 put:List Tok
abbrev jO:=Bool×Int×Int×TS
def eD (s:TS) (e f:Int):jO:=(false,e,f,s)
def okO (s:TS):jO:=(true,0,0,s)
section
variable (rp:List UInt8->Int×Int×Bool) (l:List Tok)
def iK (t:Tok):Option Rg:=if t.1=1/\(rp t.2.2.1).2.2=true/\(rp t.2.2.1).1≠8 then some ((rp t.2.2.1).1,(rp t.2.2.1).2.1) else none
def fS (sg:List UInt8) (r:Rg) (a:Int) (s:TS):jO :=
 if sg=[45] then eD s 2 a else if s.bc=0/\s.bn=0 then okO { s with bc:=r.1,bn:=r.2 }
 else if s.ic=0/\s.ix=0 then okO { s with ic:=r.1,ix:=r.2,sc:=1 } else eD s 2 a
def dg (sg:List UInt8) (r:Rg) (a num n:Int) (s:TS):jO :=
 if sg=[45]\/¬(s.ic=0/\s.ix=0) then eD s 2 a
 else if jJ n=true then okO { s with ic:=r.1,ix:=r.2,sc:=n } else eD s 2 num
def Eg (l:List Tok) (a b:Int):List Tok:=(l.drop a.toNat).take (b.toNat-a.toNat)
def kg (sg:List UInt8) (a b:Int) (s:TS):jO :=
 okO { s with put:=(if sg=[45]\/s.put≠[] then s.put++[dN sg] else s.put)++[dN [40]]++Eg l a b++[dN [41]] }
def fL (sg:List UInt8) (a b:Int) (s:TS):jO :=
 if b-a=0 then eD s 4 a
 else if b-a=1 then match at? l a with
  |
   some t=>if gK t [114,105,112]=true then fS sg (8,0) a s else match iK rp t with
   |some r=>fS sg r a s
   |none=>kg l sg a b s
  |none=>eD s 0 0
 else if b-a=3/\aM l (a+1) [42]=true then match at? l a,at? l (a+2) with
  |
   some t,some u=>match iK rp t,iK rp u with
   |some r,some q=>if u.1=2 then dg sg r a (a+2) u.2.1 s else if t.1=2 then dg sg q a a t.2.1 s else kg l sg a b s
   |some r,none=>if u.1=2 then dg sg r a (a+2) u.2.1 s else kg l sg a b s
   |none,some q=>if t.1=2 then dg sg q a a t.2.1 s else kg l sg a b s
   |none,none=>kg l sg a b s
  |_,_=>eD s 0 0
 else kg l sg a b s
def iG (e:Int):Nat->List UInt8->Int->TS->Option jO
 |0,_,_,_=>none
 |
  n+1,sg,a,s=>match fL rp l sg a (bH l a e) s with
  |
   (true,_,_,s')=>if bH l a e=e then some (okO s') else match at? l (bH l a e) with
   |some t=>iG e n t.2.2.1 (bH l a e+1) s'
   |none=>none
  |(false,x,f,s')=>some (eD s' x f)
end
end Go.Pp
