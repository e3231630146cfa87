
set_option linter.unusedVariables false
set_option linter.unusedSimpArgs false
/- Expressions: what reading them comes to, and what they are told as; trees. Expressions: whether one may be, the tokens of one, a text that is told and read again. Operands and instructions: what reading them comes to. -/

namespace Go.Px
abbrev Tok:=Int×Int×List UInt8×Int
abbrev Nd:=Int×Int×List UInt8×Int×Int
def at? {α:Type} (l:List α) (i:Int):Option α :=
 match i with
 |.ofNat n=>l[n]?
 |.negSucc _=>none
def dO (t:Tok) (s:List UInt8):Bool:=decide (t.1=4)&&decide (t.2.2.1=s)
def tU (nm:List UInt8->Bool) (t:Tok):Option Nd :=
 if t.1=2 then some (1,t.2.1,[],0,0)
 else if t.1=1/\nm t.2.2.1=true then some (2,0,t.2.2.1,0,0)
 else if dO t [36]=true then some (3,0,[],0,0)
 else if dO t [36,36]=true then some (4,0,[],0,0)
 else none
def pref (t:Tok):Option Int :=
 if dO t [45]=true then some 5 else if dO t [126]=true then some 6 else if dO t [43]=true then some 0 else none
def abx:List (List UInt8×Int×Int):=[([42],7,6),([47],8,6),([37],9,6),([43],10,5),([45],11,5),([60,60],12,4),([62,62],13,4),([38],14,3),([94],15,2),([124],16,1)]
def ep (s:List UInt8):List (List UInt8×Int×Int)->Int×Int
 |[]=>(0,0)
 |q::l=>if s=q.1 then q.2 else ep s l
def bin (t:Tok):Int×Int:=if t.1=4 then ep t.2.2.1 abx else (0,0)
structure St where
 a:Int
 d:Int
 x:List Nd
 e:Int
 f:Int
abbrev iD:=Option (Bool×St)
def yY (st:St) (e f:Int):iD:=some (false,{ st with e:=e,f:=f })
def pU (st:St) (n:Nd) (f:Int) (k:St->iD):iD:=if st.x.length=200 then yY st 3 f else k { st with x:=st.x++[n] }
def ov (st:St) (k:St->iD):iD:=if st.d=50 then yY st 3 st.a else k { st with d:=st.d+1,a:=st.a+1 }
def LK (r:iD) (k:St->iD):iD :=
 match r with
 |some (true,st)=>k st
 |some (false,st)=>some (false,st)
 |none=>none
section
variable (nm:List UInt8->Bool) (l:List Tok)
def jW (rec:Int->St->iD) (st:St) (k:St->iD):iD :=
 match at? l st.a with
 |none=>yY st 4 st.a
 |
  some t=>match tU nm t with
  |some n=>pU { st with a:=st.a+1 } n st.a k
  |
   none=>match pref t with
   |some op=>ov st λs1=>LK (rec 7 s1) λs2 =>
    if op=0 then k { s2 with d:=s2.d-1 } else pU { s2 with d:=s2.d-1 } (op,0,[],s2.x.length-1,0) st.a k
   |
    none=>if dO t [40]=true then ov st λs1=>LK (rec 1 s1) λs2=>match at? l s2.a with
     |none=>yY s2 4 s2.a
     |some c=>if dO c [41]=true then k { s2 with d:=s2.d-1,a:=s2.a+1 } else yY s2 4 s2.a
    else yY st 4 st.a
def eO (rec:Int->St->iD) (str:Int):Nat->St->iD
 |0,_=>none
 |
  n+1,st=>match at? l st.a with
  |none=>some (true,st)
  |some t=>if (bin t).2<str then some (true,st) else
   LK (rec ((bin t).2+1) { st with a:=st.a+1 }) λs2=>pU s2 ((bin t).1,0,[],st.x.length-1,s2.x.length-1) st.a (eO rec str n)
def bf:Nat->Int->St->iD
 |0=>λ_ _=>none
 |k+1=>λstr st=>jW nm l (bf k) st (eO l (bf k) str (l.length+1))
end
inductive T where
 |leaf (n:Nd)
 |un (op:Int) (a:T)
 |bi (op:Int) (a b:T)
def T.size:T->Nat
 |.leaf _=>1
 |.un _ a=>a.size+1
 |.bi _ a b=>a.size+b.size+1
theorem T.size_pos:∀t:T,0<t.size
 |.leaf _=>Nat.zero_lt_one
 |.un _ _=>Nat.succ_pos _
 |.bi _ _ _=>Nat.succ_pos _
def T.post (b:Nat):T->List Nd
 |.leaf n=>[n]
 |.un op a=>a.post b++[(op,0,[],((b+a.size:Nat):Int)-1,0)]
 |.bi op u v=>u.post b++(v.post (b+u.size)++[(op,0,[],((b+u.size:Nat):Int)-1,((b+u.size+v.size:Nat):Int)-1)])
theorem T.eJ:∀(t:T) (b:Nat),(t.post b).length=t.size
 |.leaf _,_=>rfl
 |.un _ a,b=>by simp[T.post,T.size,a.eJ b]
 |.bi _ u v,b=>by simp[T.post,T.size,u.eJ b,v.eJ (b+u.size)];omega
def Df (nm:List UInt8->Bool) (n:Nd):Prop :=
 (∃k,n=(1,k,[],0,0))\/(∃s,n=(2,0,s,0,0)/\nm s=true)\/n=(3,0,[],0,0)\/n=(4,0,[],0,0)
def T.ok (nm:List UInt8->Bool):T->Prop
 |.leaf n=>Df nm n
 |.un op a=>(op=5\/op=6)/\a.ok nm
 |.bi op u v=>7<=op/\op<=16/\u.ok nm/\v.ok nm
def jq (op:Int):List UInt8 :=
 if op=3 then [36] else if op=4 then [36,36] else if op=5\/op=11 then [45] else if op=6 then [126] else if op=7 then [42] else if op=8 then [47]
 else if op=9 then [37] else if op=10 then [43] else if op=12 then [60,60] else if op=13 then [62,62] else if op=14 then [38] else if op=15 then [94] else [124]
def oF (s:List UInt8):Tok:=(4,0,s,0)
def Sf (n:Nd):Tok:=if n.1=1 then (2,n.2.1,[],0) else if n.1=2 then (1,0,n.2.2.1,0) else oF (jq n.1)
def T.toks (w:Bool):T->List Tok
 |.leaf n=>[Sf n]
 |.un op a=>oF (jq op)::a.toks false
 |.bi op u v=>(if w then [] else [oF [40]])++(u.toks false++(oF (jq op)::(v.toks false++(if w then [] else [oF [41]]))))
theorem Dg {α:Type} (p r:List α) (c:α):at? (p++c::r) ((p.length:Nat):Int)=some c:=by
 show (p++c::r)[p.length]? = some c
 simp
def afd (t:Tok):Prop:=(bin t).2=0
def ajy (r:iD):Prop:=∃st,r=some (false,st)/\st.e=3
variable {nm:List UInt8->Bool}
def T.need:T->Nat
 |.leaf _=>0
 |.un _ a=>a.need+1
 |.bi _ u v=>max u.need v.need+2
def ahv (str:Int) (Zj:List Tok):Prop:=match Zj with
 |[]=>True
 |t::_=>(bin t).2<str
theorem gM {α:Type} {l:List α} {i:Int} {c:α} (h:at? l i=some c):0<=i/\i<(l.length:Int):=by
 unfold at? at h
 split at h
 .
  rename_i n;have:=(List.getElem?_eq_some_iff.1 h).1;simp;omega
 cases h
theorem Sg {t:Tok} {n:Nd} (h:tU nm t=some n):Df nm n:=by
 unfold tU at h
 split at h
 .
  cases h;exact .inl ⟨_,rfl⟩
 split at h
 .
  rename_i h2;cases h;exact .inr (.inl ⟨_,rfl,h2.2⟩)
 split at h
 .
  cases h;exact .inr (.inr (.inl rfl))
 split at h
 .
  cases h;exact .inr (.inr (.inr rfl))
 cases h
theorem Sh {t:Tok} {op:Int} (h:pref t=some op):op=0\/op=5\/op=6:=by
 unfold pref at h
 split at h
 .
  cases h;omega
 split at h
 .
  cases h;omega
 split at h
 .
  cases h;omega
 cases h
theorem OE {t:Tok} (h:1<=(bin t).2):7<=(bin t).1/\(bin t).1<=16/\(bin t).2<=6:=by
 have key:∀(s:List UInt8) (m:List (List UInt8×Int×Int)),(∀q∈m,7<=q.2.1/\q.2.1<=16/\q.2.2<=6)->1<=(ep s m).2->7<=(ep s m).1/\(ep s m).1<=16/\(ep s m).2<=6:=by
  intro s m
  induction m with
  |nil=>intro _ h;exact absurd h (by show ¬(1:Int)<=0;decide)
  |
   cons q m ih =>
   intro hm h;unfold ep at h ⊢;split
   .
    exact hm q (List.mem_cons_self ..)
   rename_i hq;rw[if_neg hq] at h;exact ih (λx hx=>hm x (List.mem_cons_of_mem _ hx)) h
 unfold bin at h ⊢
 split
 .
  rename_i ht;rw[if_pos ht] at h;exact key _ _ (by decide) h
 rename_i ht
 rw[if_neg ht] at h
 exact absurd h (by show ¬(1:Int)<=0;decide)
def Grown (nm:List UInt8->Bool) (l:List Tok) (st st':St):Prop :=
 ∃t:T,t.ok nm/\st'.x=st.x++t.post st.x.length/\st.a<st'.a/\st'.a<=(l.length:Int)/\st'.d=st.d/\st'.e=st.e/\st'.f=st.f/\st'.x.length<=200
theorem go_inv {r:iD} {k:St->iD} {st':St} (h:LK r k=some (true,st')):∃s,r=some (true,s)/\k s=some (true,st'):=by
 unfold LK at h
 split at h
 .
  exact ⟨_,rfl,h⟩
 .
  cases h
 cases h
theorem yZ {st:St} {n:Nd} {f:Int} {k:St->iD} {st':St} (h:pU st n f k=some (true,st')):st.x.length≠200/\k { st with x:=st.x++[n] }=some (true,st'):=by
 unfold pU at h
 split at h
 .
  cases h
 rename_i h1;exact ⟨h1,h⟩
theorem Fq {st:St} {k:St->iD} {st':St} (h:ov st k=some (true,st')):k { st with d:=st.d+1,a:=st.a+1 }=some (true,st'):=by
 unfold ov at h
 split at h
 .
  cases h
 exact h
theorem y3 {l:List Tok} {rec:Int->St->iD} (hrec:∀s st st',st.x.length<=200->st.a<=(l.length:Int)->rec s st=some (true,st')->Grown nm l st st') {str:Int} (h1:1<=str):∀(n:Nat) (st0 st st':St),Grown nm l st0 st->eO l rec str n st=some (true,st')->Grown nm l st0 st'
 |0,_,_,_,_,h=>by cases h
 |
  n+1,st0,st,st',hg,h=>by
  unfold eO at h;split at h
  .
   cases h;exact hg
  rename_i tok dJ;split at h
  .
   cases h;exact hg
  rename_i ajz;obtain ⟨s2,h2,h3⟩:=go_inv h;obtain ⟨h4,h5⟩:=yZ h3;obtain ⟨t,k1,k2,k3,k4,k5,k6,k7,k8⟩:=hg;have hlt:=gM dJ;obtain ⟨u,m1,m2,m3,m4,m5,m6,m7,m8⟩:=hrec _ { st with a:=st.a+1 } _ k8 (by show st.a+1<=_;omega) h2
  have hb:=OE (t:=tok) (by omega)
  refine y3 hrec h1 n st0 { s2 with x:=s2.x++[((bin tok).1,0,[],(st.x.length:Int)-1,(s2.x.length:Int)-1)] } st' ?_ h5
  refine ⟨.bi (bin tok).1 t u,⟨hb.1,hb.2.1,k1,m1⟩,?_,by show st0.a<s2.a;have:st.a+1<s2.a:=m3;omega,m4,by show s2.d=_;rw[m5];exact k5,by show s2.e=_;rw[m6];exact k6,by show s2.f=_;rw[m7];exact k7,?_⟩
  .
   show s2.x++[_]=_;have e2:s2.x=st.x++u.post st.x.length:=m2;have el:st.x.length=st0.x.length+t.size:=by rw[k2,List.length_append,T.eJ]
   have el2:s2.x.length=st0.x.length+t.size+u.size:=by rw[e2,List.length_append,T.eJ,el]
   rw[el2,e2,el,k2];simp only[T.post,List.append_assoc]
  show (s2.x++[_]).length<=200;have:s2.x.length<=200:=m8;simp;omega
theorem eP (l:List Tok):∀(k:Nat) (str:Int) (st st':St),1<=str->st.x.length<=200->st.a<=(l.length:Int)->bf nm l k str st=some (true,st')->Grown nm l st st'
 |0,_,_,_,_,_,_,h=>by cases h
 |
  k+1,str,st,st',hs,hx,ha,h=>by
  have h:jW nm l (bf nm l k) st (eO l (bf nm l k) str (l.length+1))=some (true,st'):=h
  have Jw:∀s1,Grown nm l st s1->eO l (bf nm l k) str (l.length+1) s1=some (true,st')->Grown nm l st st':=λs1 hg hm =>
   y3 (rec:=λs st=>if 1<=s then bf nm l k s st else none) (λs a b hxa haa hr=>by
    split at hr
    .
     rename_i h1;exact eP l k s a b h1 hxa haa hr
    cases hr) hs (l.length+1) st s1 st' hg (by
    have:∀n s,eO l (λs st=>if 1<=s then bf nm l k s st else none) str n s=eO l (bf nm l k) str n s:=by
     intro n
     induction n with
     |zero=>intro s;rfl
     |
      succ n ih =>
      intro s;unfold eO;split
      .
       rfl
      split
      .
       rfl
      rename_i tok _ hlt;rw[if_pos (by omega)]
      congr 1
      funext s2
      rw[show eO l (λs st=>if 1<=s then bf nm l k s st else none) str n=eO l (bf nm l k) str n from funext ih]
    rw[this];exact hm)
  unfold jW at h;split at h
  .
   cases h
  rename_i tok dJ;have hlt:=gM dJ;split at h
  .
   rename_i n hn;obtain ⟨h4,h5⟩:=yZ h;refine Jw { st with a:=st.a+1,x:=st.x++[n] } ⟨.leaf n,Sg hn,rfl,by show st.a<st.a+1;omega,by show st.a+1<=_;omega,rfl,rfl,rfl,?_⟩ h5
   show (st.x++[n]).length<=200;have:st.x.length≠200:=h4;simp;omega
  split at h
  .
   rename_i op hp;have h:=Fq h;obtain ⟨s2,h2,h3⟩:=go_inv h;obtain ⟨u,m1,m2,m3,m4,m5,m6,m7,m8⟩:=eP l k 7 { st with d:=st.d+1,a:=st.a+1 } s2 (by decide) hx (by show st.a+1<=_;omega) h2
   have m3:st.a+1<s2.a:=m3;have m5:s2.d=st.d+1:=m5;split at h3
   .
    refine Jw { s2 with d:=s2.d-1 } ⟨u,m1,m2,by show st.a<s2.a;omega,m4,by show s2.d-1=st.d;omega,m6,m7,m8⟩ h3
   rename_i hop;obtain ⟨h4,h5⟩:=yZ h3;have h4:s2.x.length≠200:=h4;refine Jw { s2 with d:=s2.d-1,x:=s2.x++[(op,0,[],(s2.x.length:Int)-1,0)] } ⟨.un op u,⟨by have:=Sh hp;omega,m1⟩,?_,by show st.a<s2.a;omega,m4,by show s2.d-1=st.d;omega,m6,m7,?_⟩ h5
   .
    show s2.x++[_]=_;have e2:s2.x=st.x++u.post st.x.length:=m2;rw[e2];simp[T.post,T.eJ]
   show (s2.x++[_]).length<=200;have:s2.x.length<=200:=m8;simp;omega
  split at h
  .
   have h:=Fq h;obtain ⟨s2,h2,h3⟩:=go_inv h;obtain ⟨u,m1,m2,m3,m4,m5,m6,m7,m8⟩:=eP l k 1 { st with d:=st.d+1,a:=st.a+1 } s2 (by decide) hx (by show st.a+1<=_;omega) h2
   have m3:st.a+1<s2.a:=m3;have m5:s2.d=st.d+1:=m5;split at h3
   .
    cases h3
   rename_i c hc;have W8:=gM hc;split at h3
   .
    exact Jw { s2 with d:=s2.d-1,a:=s2.a+1 } ⟨u,m1,m2,by show st.a<s2.a+1;omega,by show s2.a+1<=_;omega,by show s2.d-1=st.d;omega,m6,m7,m8⟩ h3
   cases h3
  cases h
theorem go_some {r:iD} {k:St->iD} (h:∃x,r=some x) (hk:∀s,r=some (true,s)->∃y,k s=some y):∃y,LK r k=some y:=by
 obtain ⟨⟨b,s⟩,rfl⟩:=h
 cases b with
 |true=>exact hk s rfl
 |false=>exact ⟨_,rfl⟩
theorem vu {st:St} {n:Nd} {f:Int} {k:St->iD} (hk:st.x.length≠200->∃y,k { st with x:=st.x++[n] }=some y):∃y,pU st n f k=some y:=by
 unfold pU
 split
 .
  exact ⟨_,rfl⟩
 rename_i h;exact hk h
theorem BG {st:St} {k:St->iD} (hk:∃y,k { st with d:=st.d+1,a:=st.a+1 }=some y):∃y,ov st k=some y:=by
 unfold ov
 split
 .
  exact ⟨_,rfl⟩
 exact hk
theorem lz (l:List Tok):∀(k:Nat) (str:Int) (st:St),1<=str->st.x.length<=200->0<=st.a->st.a<=(l.length:Int)->(l.length:Int)-st.a<k->∃r,bf nm l k str st=some r
 |0,_,_,_,_,_,_,h=>by omega
 |
  k+1,str,st,hs,hx,h0,ha,hk=>by
  have more:∀(n:Nat) (s:St),s.x.length<=200->st.a<s.a->s.a<=(l.length:Int)->(l.length:Int)-s.a<n->∃r,eO l (bf nm l k) str n s=some r:=by
   intro n
   induction n with
   |zero=>intro s _ _ _ h;omega
   |
    succ n ih =>
    intro s hsx hsa ZG hn;unfold eO;split
    .
     exact ⟨_,rfl⟩
    rename_i tok dJ;have hlt:=gM dJ;split
    .
     exact ⟨_,rfl⟩
    refine go_some (lz l k _ { s with a:=s.a+1 } (by omega) hsx (by show 0<=s.a+1;omega) (by show s.a+1<=_;omega) (by show _-(s.a+1)<_;omega)) λs2 h2=>vu λhne=>?_
    obtain ⟨u,m1,m2,m3,m4,m5,m6,m7,m8⟩:=eP l k _ { s with a:=s.a+1 } s2 (by omega) hsx (by show s.a+1<=_;omega) h2
    have m3:s.a+1<s2.a:=m3;exact ih _ (by show (s2.x++[_]).length<=200;simp;omega) (by show st.a<s2.a;omega) m4 (by show _-s2.a<_;omega)
  show ∃r,jW nm l (bf nm l k) st (eO l (bf nm l k) str (l.length+1))=some r;unfold jW;split
  .
   exact ⟨_,rfl⟩
  rename_i tok dJ;have hlt:=gM dJ;split
  .
   exact vu λhne=>more _ _ (by show (st.x++[_]).length<=200;have:st.x.length≠200:=hne;simp;omega) (by show st.a<st.a+1;omega) (by show st.a+1<=_;omega) (by show _-(st.a+1)<_;omega)
  split
  .
   refine BG (go_some (lz l k 7 { st with d:=st.d+1,a:=st.a+1 } (by decide) hx (by show 0<=st.a+1;omega) (by show st.a+1<=_;omega) (by show _-(st.a+1)<_;omega)) λs2 h2=>?_)
   obtain ⟨u,m1,m2,m3,m4,m5,m6,m7,m8⟩:=eP l k _ { st with d:=st.d+1,a:=st.a+1 } s2 (by decide) hx (by show st.a+1<=_;omega) h2
   have m3:st.a+1<s2.a:=m3;split
   .
    exact more _ _ m8 (by show st.a<s2.a;omega) m4 (by show _-s2.a<_;omega)
   exact vu λhne=>more _ _ (by show (s2.x++[_]).length<=200;have:s2.x.length≠200:=hne;simp;omega) (by show st.a<s2.a;omega) m4 (by show _-s2.a<_;omega)
  split
  .
   refine BG (go_some (lz l k 1 { st with d:=st.d+1,a:=st.a+1 } (by decide) hx (by show 0<=st.a+1;omega) (by show st.a+1<=_;omega) (by show _-(st.a+1)<_;omega)) λs2 h2=>?_)
   obtain ⟨u,m1,m2,m3,m4,m5,m6,m7,m8⟩:=eP l k _ { st with d:=st.d+1,a:=st.a+1 } s2 (by decide) hx (by show st.a+1<=_;omega) h2
   have m3:st.a+1<s2.a:=m3;split
   .
    exact ⟨_,rfl⟩
   rename_i c hc;have W8:=gM hc;split
   .
    exact more _ _ m8 (by show st.a<s2.a+1;omega) (by show s2.a+1<=_;omega) (by show _-(s2.a+1)<_;omega)
   exact ⟨_,rfl⟩
  exact ⟨_,rfl⟩
end Go.Px

namespace Go.Px
variable {nm:List UInt8->Bool}
def bB (nm:List UInt8->Bool) (n:Nd):Bool :=
 decide (1<=n.1)&&decide (n.1<=16)&&(decide (n.1=1)||decide (n.2.1=0))&&(if n.1=2 then nm n.2.2.1 else decide (n.2.2.1=[]))&&(!decide (n.1<=4)||decide (n.2.2.2.1=0))&&(decide (6<n.1)||decide (n.2.2.2.2=0))
def wB (i:Int) (n:Nd) (o:List Int):Option (List Int) :=
 if n.1<=4 then some (o++[i])
 else if n.1<=6 then (if o.length<1\/o[o.length-1]? ≠ some n.2.2.2.1 then none else some (o.take (o.length-1)++[i]))
 else (if o.length<2\/o[o.length-2]? ≠ some n.2.2.2.1\/o[o.length-1]? ≠ some n.2.2.2.2 then none else some (o.take (o.length-2)++[i]))
def lB (nm:List UInt8->Bool):Nat->List Nd->List Int->Int
 |_,[],o=>if o.length=1 then 0 else 2
 |
  i,n::r,o=>if bB nm n=true then (match wB i n o with
  |some o'=>lB nm (i+1) r o'
  |none=>2) else 2
def gI (nm:List UInt8->Bool) (x:List Nd):Int:=if 200<x.length then 3 else lB nm 0 x []
def ow:List T->Nat
 |[]=>0
 |t::r=>ow r+t.size
def pV:List T->List Nd
 |[]=>[]
 |t::r=>pV r++t.post (ow r)
def dP:List T->List Int
 |[]=>[]
 |t::r=>dP r++[((ow r+t.size:Nat):Int)-1]
theorem vA:∀r:List T,(pV r).length=ow r
 |[]=>rfl
 |t::r=>by rw[pV,List.length_append,vA r,T.eJ,ow]
theorem vB:∀r:List T,(dP r).length=r.length
 |[]=>rfl
 |t::r=>by rw[dP,List.length_append,vB r];rfl
theorem Fu {n:Nd} (h:bB nm n=true) (h4:n.1<=4):Df nm n:=by
 obtain ⟨op,k,s,L,R⟩:=n
 simp only[bB,Bool.and_eq_true,Bool.or_eq_true,decide_eq_true_eq,Bool.not_eq_true',decide_eq_false_iff_not] at h
 simp only at h4
 obtain ⟨⟨⟨⟨⟨h1,h2⟩,h3⟩,h5⟩,h6⟩,h7⟩:=h
 have hL:L=0:=by omega
 have hR:R=0:=by omega
 subst hL;subst hR
 obtain rfl|rfl|rfl|rfl:op=1\/op=2\/op=3\/op=4:=by omega
 .
  rw[if_neg (by decide)] at h5
  have:s=[]:=of_decide_eq_true h5;subst this;exact .inl ⟨k,rfl⟩
 .
  have:k=0:=by omega
  subst this;rw[if_pos rfl] at h5;exact .inr (.inl ⟨s,rfl,h5⟩)
 .
  have:k=0:=by omega
  subst this;rw[if_neg (by decide)] at h5
  have:s=[]:=of_decide_eq_true h5;subst this;exact .inr (.inr (.inl rfl))
 have:k=0:=by omega
 subst this
 rw[if_neg (by decide)] at h5
 have:s=[]:=of_decide_eq_true h5
 subst this;exact .inr (.inr (.inr rfl))
theorem Le {n:Nd} (h:bB nm n=true) (h4:¬n.1<=4):n.2.1=0/\n.2.2.1=[]/\n.1<=16/\(n.1<=6->n.2.2.2.2=0):=by
 obtain ⟨op,k,s,L,R⟩:=n
 simp only[bB,Bool.and_eq_true,Bool.or_eq_true,decide_eq_true_eq,Bool.not_eq_true',decide_eq_false_iff_not] at h
 simp only at h4 ⊢
 obtain ⟨⟨⟨⟨⟨h1,h2⟩,h3⟩,h5⟩,h6⟩,h7⟩:=h
 rw[if_neg (by omega)] at h5
 exact ⟨by omega,of_decide_eq_true h5,h2,λh=>by omega⟩
theorem y6 (o:List Int) (a:Int):(o++[a])[(o++[a]).length-1]? = some a:=by simp
theorem BL (o:List Int) (a:Int):(o++[a]).take ((o++[a]).length-1)=o:=by simp
theorem y7:∀(x:List Nd) (f:List T),(∀t∈f,t.ok nm)->lB nm (ow f) x (dP f)=0->∃t:T,t.ok nm/\pV f++x=t.post 0
 |
  [],f,hok,h=>by
  unfold lB at h;split at h
  .
   rename_i hl;rw[vB] at hl
   match f,hl with
   |[t],_=>exact ⟨t,hok t (by simp),by simp[pV,ow]⟩
  exact absurd h (by decide)
 |
  n::x,f,hok,h=>by
  unfold lB at h;split at h
  .
   rename_i hf;split at h
   .
    rename_i o' ho
    have go:∀(f':List T),(∀t∈f',t.ok nm)->pV f'=pV f++[n]->dP f'=o'->∃t:T,t.ok nm/\pV f++(n::x)=t.post 0:=λf' hok' hp hr=>by
     have hsz:ow f'=ow f+1:=by rw[<-vA,hp,List.length_append,vA];rfl
     rw[<-hr,<-hsz] at h;obtain ⟨t,k1,k2⟩:=y7 x f' hok' h;exact ⟨t,k1,by rw[<-k2,hp];simp⟩
    unfold wB at ho;split at ho
    .
     rename_i h4;cases ho;refine go (.leaf n::f) (λt ht=>?_) rfl ?_
     .
      rcases List.mem_cons.1 ht with rfl|ht
      .
       exact Fu hf h4
      exact hok t ht
     simp only[dP,T.size];congr 2;omega
    rename_i h4;obtain ⟨e1,e2,e3,e4⟩:=Le hf h4;obtain ⟨op,k,s,L,R⟩:=n;simp only at e1 e2 e3 e4 h4;subst e1;subst e2;split at ho
    .
     rename_i h6;simp only at h6;have hR:=e4 h6;subst hR;split at ho
     .
      cases ho
     rename_i hc;cases ho
     match f,hok with
     |[],_=>exact absurd (Or.inl (by simp[dP])) hc
     |
      a::r,hok =>
      have hL:(dP (a::r))[(dP (a::r)).length-1]? = some L:=Classical.byContradiction λhn=>hc (.inr hn)
      rw[dP,y6] at hL;have hL:=Option.some.inj hL;refine go (.un op a::r) (λt ht=>?_) ?_ ?_
      .
       rcases List.mem_cons.1 ht with rfl|ht
       .
        exact ⟨by omega,hok a (by simp)⟩
       exact hok t (by simp[ht])
      .
       simp only[pV,T.post,hL,List.append_assoc]
      rw[dP,dP,BL];simp only[T.size,ow];congr 2;omega
    rename_i h6;simp only at h6;split at ho
    .
     cases ho
    rename_i hc;cases ho
    match f,hok with
    |[],_=>exact absurd (Or.inl (by simp[dP])) hc
    |[_],_=>exact absurd (Or.inl (by simp[dP])) hc
    |
     b::a::r,hok =>
     have hlen:(dP (b::a::r)).length=(dP r).length+2:=by simp[vB]
     have hR:(dP (b::a::r))[(dP (b::a::r)).length-1]? = some R:=Classical.byContradiction λhn=>hc (.inr (.inr hn))
     have hL:(dP (b::a::r))[(dP (b::a::r)).length-2]? = some L:=Classical.byContradiction λhn=>hc (.inr (.inl hn))
     rw[dP,y6] at hR;have hR:=Option.some.inj hR;rw[hlen,dP,dP] at hL;simp only[Nat.add_sub_cancel,List.append_assoc] at hL;rw[List.getElem?_append_right (Nat.le_refl _)] at hL;simp only[Nat.sub_self,List.singleton_append,List.getElem?_cons_zero] at hL;have hL:=Option.some.inj hL;refine go (.bi op a b::r) (λt ht=>?_) ?_ ?_
     .
      rcases List.mem_cons.1 ht with rfl|ht
      .
       exact ⟨by omega,e3,hok a (by simp),hok b (by simp)⟩
      exact hok t (by simp[ht])
     .
      simp only[pV,ow] at hL hR ⊢;simp only[T.post,hL,hR,List.append_assoc]
     have e2:(dP (b::a::r)).take ((dP (b::a::r)).length-2)=dP r:=by
      rw[hlen,dP,dP];simp
     rw[e2,dP];simp only[T.size,ow];congr 2;omega
   exact absurd h (by decide)
  exact absurd h (by decide)
theorem OT {x:List Nd} (h:gI nm x=0):∃t:T,t.ok nm/\x=t.post 0/\x.length<=200:=by
 unfold gI at h
 split at h
 .
  exact absurd h (by decide)
 rename_i hl
 obtain ⟨t,h1,h2⟩:=y7 x [] (λt ht=>by simp at ht) h
 exact ⟨t,h1,by simpa[pV] using h2,by omega⟩
theorem Fv {n:Nd} (h:Df nm n):bB nm n=true/\n.1<=4:=by
 rcases h with ⟨k,rfl⟩|⟨s,rfl,hs⟩|rfl|rfl
 .
  exact ⟨by simp[bB],by show (1:Int)<=4;decide⟩
 .
  exact ⟨by simp[bB,hs],by show (2:Int)<=4;decide⟩
 .
  exact ⟨by simp[bB],by show (3:Int)<=4;decide⟩
 exact ⟨by simp[bB],by show (4:Int)<=4;decide⟩
theorem tV:∀(t:T),t.ok nm->∀(i:Nat) (r:List Nd) (o:List Int),lB nm i (t.post i++r) o=lB nm (i+t.size) r (o++[((i+t.size:Nat):Int)-1])
 |
  .leaf n,h,i,r,o=>by
  obtain ⟨h1,h2⟩:=Fv h;show lB nm i (n::r) o=_;rw[lB,if_pos h1];unfold wB;rw[if_pos h2];simp only[T.size]
  congr 3;omega
 |
  .un op a,⟨hop,ha⟩,i,r,o=>by
  have e:(T.un op a).post i++r=a.post i++((op,0,[],((i+a.size:Nat):Int)-1,0)::r):=by simp[T.post]
  rw[e,tV a ha,lB,if_pos (by rcases hop with rfl|rfl<;>simp[bB])]
  unfold wB;simp only;rw[if_neg (by omega),if_pos (by omega),if_neg (by rw[y6];simp),BL]
  show lB nm (i+a.size+1) r (o++[((i+a.size:Nat):Int)])=lB nm (i+a.size+1) r (o++[((i+a.size+1:Nat):Int)-1]);rw[show ((i+a.size+1:Nat):Int)-1=((i+a.size:Nat):Int) by omega]
 |
  .bi op u v,⟨h7,Zl,hu,hv⟩,i,r,o=>by
  have e:(T.bi op u v).post i++r=u.post i++(v.post (i+u.size)++((op,0,[],((i+u.size:Nat):Int)-1,((i+u.size+v.size:Nat):Int)-1)::r)):=by simp[T.post]
  rw[e,tV u hu,tV v hv,lB,if_pos (by
   simp only[bB,Bool.and_eq_true,Bool.or_eq_true,decide_eq_true_eq,Bool.not_eq_true',decide_eq_false_iff_not];rw[if_neg (by omega)]
   refine ⟨⟨⟨⟨⟨by omega,by omega⟩,.inr trivial⟩,by simp⟩,.inl (by omega)⟩,.inl (by omega)⟩)]
  unfold wB;simp only;rw[if_neg (by omega),if_neg (by omega),if_neg (by simp)]
  have et:(o++[((i+u.size:Nat):Int)-1]++[((i+u.size+v.size:Nat):Int)-1]).take ((o++[((i+u.size:Nat):Int)-1]++[((i+u.size+v.size:Nat):Int)-1]).length-2)=o:=by simp
  rw[et];show lB nm (i+u.size+v.size+1) r (o++[((i+u.size+v.size:Nat):Int)])=lB nm (i+(u.size+v.size+1)) r (o++[((i+(u.size+v.size+1):Nat):Int)-1]);rw[show i+(u.size+v.size+1)=i+u.size+v.size+1 by omega,show ((i+u.size+v.size+1:Nat):Int)-1=((i+u.size+v.size:Nat):Int) by omega]
theorem Lf {t:T} (h:t.ok nm) (hs:t.size<=200):gI nm (t.post 0)=0:=by
 unfold gI
 rw[T.eJ,if_neg (by omega)]
 have:=tV t h 0 [] []
 rw[List.append_nil] at this
 rw[this]
 rfl
def eK (x:List Nd):Nat->Int->Bool->Option (List Tok)
 |0,_,_=>none
 |
  k+1,a,w=>match at? x a with
  |none=>none
  |
   some n =>
   if n.1=1 then some [(2,n.2.1,[],0)]
   else if n.1=2 then some [(1,0,n.2.2.1,0)]
   else if n.1<=4 then some [oF (jq n.1)]
   else if n.1<=6 then (match eK x k n.2.2.2.1 false with
    |some u=>some (oF (jq n.1)::u)
    |none=>none)
   else (match eK x k n.2.2.2.1 false,eK x k n.2.2.2.2 false with
    |some u,some v=>some ((if w then [] else [oF [40]])++(u++(oF (jq n.1)::(v++(if w then [] else [oF [41]])))))
    |_,_=>none)
theorem qB:∀(t:T),t.ok nm->∀(x p r:List Nd) (k:Nat) (w:Bool),x=p++(t.post p.length++r)->t.size<=k->eK x k (((p.length+t.size:Nat):Int)-1) w=some (t.toks w)
 |
  .leaf n,h,x,p,r,k,w,hx,hk=>by
  obtain ⟨k,rfl⟩:∃k',k=k'+1:=⟨k-1,by simp only[T.size] at hk;omega⟩
  have dJ:at? x (((p.length+1:Nat):Int)-1)=some n:=by
   have:((p.length+1:Nat):Int)-1=((p.length:Nat):Int):=by omega
   rw[this,hx];exact Dg p r n
  simp only[T.size];unfold eK;rw[dJ];rcases h with ⟨k,rfl⟩|⟨s,rfl,hs⟩|rfl|rfl<;>rfl
 |
  .un op a,⟨hop,ha⟩,x,p,r,k,w,hx,hk=>by
  obtain ⟨k,rfl⟩:∃k',k=k'+1:=⟨k-1,by simp only[T.size] at hk;omega⟩
  have hx1:x=p++(a.post p.length++((op,0,[],((p.length+a.size:Nat):Int)-1,0)::r)):=by rw[hx];simp[T.post]
  have dJ:at? x (((p.length+(a.size+1):Nat):Int)-1)=some (op,0,[],((p.length+a.size:Nat):Int)-1,0):=by
   have e1:((p.length+(a.size+1):Nat):Int)-1=(((p++a.post p.length).length:Nat):Int):=by simp[T.eJ];omega
   rw[e1,hx1,<-List.append_assoc];exact Dg _ _ _
  have ih:=qB a ha x p _ k false hx1 (by simp only[T.size] at hk;omega)
  simp only[T.size];unfold eK;rw[dJ];simp only;rw[if_neg (by omega),if_neg (by omega),if_neg (by omega),if_pos (by omega),ih]
  rfl
 |
  .bi op u v,⟨h7,Zl,hu,hv⟩,x,p,r,k,w,hx,hk=>by
  obtain ⟨k,rfl⟩:∃k',k=k'+1:=⟨k-1,by simp only[T.size] at hk;omega⟩
  have hx1:x=p++(u.post p.length++(v.post (p.length+u.size)++((op,0,[],((p.length+u.size:Nat):Int)-1,((p.length+u.size+v.size:Nat):Int)-1)::r))):=by rw[hx];simp[T.post]
  have hpl:(p++u.post p.length).length=p.length+u.size:=by simp[T.eJ]
  have hx2:x=(p++u.post p.length)++(v.post (p++u.post p.length).length++((op,0,[],((p.length+u.size:Nat):Int)-1,((p.length+u.size+v.size:Nat):Int)-1)::r)):=by rw[hpl,hx1];simp
  have dJ:at? x (((p.length+(u.size+v.size+1):Nat):Int)-1)=some (op,0,[],((p.length+u.size:Nat):Int)-1,((p.length+u.size+v.size:Nat):Int)-1):=by
   have e1:((p.length+(u.size+v.size+1):Nat):Int)-1=((((p++u.post p.length)++v.post (p.length+u.size)).length:Nat):Int):=by simp[T.eJ];omega
   rw[e1,hx1];have:p++(u.post p.length++(v.post (p.length+u.size)++((op,0,[],((p.length+u.size:Nat):Int)-1,((p.length+u.size+v.size:Nat):Int)-1)::r)))=((p++u.post p.length)++v.post (p.length+u.size))++((op,0,[],((p.length+u.size:Nat):Int)-1,((p.length+u.size+v.size:Nat):Int)-1)::r):=by simp
   rw[this];exact Dg _ _ _
  have ih1:=qB u hu x p _ k false hx1 (by simp only[T.size] at hk;omega)
  have ih2:=qB v hv x (p++u.post p.length) _ k false hx2 (by simp only[T.size] at hk;omega)
  rw[hpl] at ih2;simp only[T.size];unfold eK;rw[dJ];simp only;rw[if_neg (by omega),if_neg (by omega),if_neg (by omega),if_neg (by omega),ih1,ih2]
  rfl
def iO (nm:List UInt8->Bool) (l:List Tok) (a:Int):Option (List Nd×Int×Int×Int) :=
 if a<0\/(l.length:Int)<a then some ([],0,2,0) else
 match bf nm l (l.length+1) 1 ⟨a,0,[],0,0⟩ with
 |some (true,st)=>some (st.x,st.a,0,0)
 |some (false,st)=>some ([],0,st.e,st.f)
 |none=>none
theorem sr (l:List Tok) (a:Int):∃r,iO nm l a=some r:=by
 unfold iO
 split
 .
  exact ⟨_,rfl⟩
 rename_i h
 obtain ⟨⟨b,st⟩,hr⟩:=lz (nm:=nm) l (l.length+1) 1 ⟨a,0,[],0,0⟩ (by decide) (by simp) (by show 0<=a;omega) (by show a<=_;omega) (by show _-a<_;omega)
 rw[hr]
 cases b<;>exact ⟨_,rfl⟩
def jZ (r:iD):Prop:=∀st,r=some (false,st)->st.e≠0
theorem vC (st:St) {e:Int} (f:Int) (h:e≠0):jZ (yY st e f):=λs hs=>by cases hs;exact h
theorem go_f {r:iD} {k:St->iD} (h:jZ r) (hk:∀s,jZ (k s)):jZ (LK r k):=λst hs=>by
 unfold LK at hs
 split at hs
 .
  exact hk _ st hs
 .
  cases hs;exact h _ rfl
 cases hs
theorem HB {st:St} {n:Nd} {f:Int} {k:St->iD} (hk:∀s,jZ (k s)):jZ (pU st n f k):=by
 unfold pU
 split
 .
  exact vC _ _ (by decide)
 exact hk _
theorem OU {st:St} {k:St->iD} (hk:∀s,jZ (k s)):jZ (ov st k):=by
 unfold ov
 split
 .
  exact vC _ _ (by decide)
 exact hk _
theorem OV {l:List Tok} {rec:Int->St->iD} (hr:∀s st,jZ (rec s st)) (str:Int):∀(n:Nat) (st:St),jZ (eO l rec str n st)
 |0,st=>λ_ h=>by cases h
 |
  n+1,st=>by
  unfold eO;split
  .
   intro _ h;cases h
  split
  .
   intro _ h;cases h
  exact go_f (hr _ _) λs=>HB λs=>OV hr str n s
theorem xq (l:List Tok):∀(k:Nat) (str:Int) (st:St),jZ (bf nm l k str st)
 |0,_,_=>λ_ h=>by cases h
 |
  k+1,str,st=>by
  have ih:=xq l k;show jZ (jW nm l (bf nm l k) st (eO l (bf nm l k) str (l.length+1)));have hm:=OV (l:=l) ih str (l.length+1);unfold jW;split
  .
   exact vC _ _ (by decide)
  split
  .
   exact HB hm
  split
  .
   refine OU λs=>go_f (ih _ _) λs=>?_
   split
   .
    exact hm _
   exact HB hm
  split
  .
   refine OU λs=>go_f (ih _ _) λs=>?_
   split
   .
    exact vC _ _ (by decide)
   split
   .
    exact hm _
   exact vC _ _ (by decide)
  exact vC _ _ (by decide)
theorem tW {l:List Tok} {a:Int} {y:List Nd} {e f g:Int} (h:iO nm l a=some (y,e,f,g)):(f≠0->y=[]/\e=0)/\(f=0->gI nm y=0/\a<e/\e<=(l.length:Int)):=by
 unfold iO at h
 split at h
 .
  cases h;exact ⟨λ_=>⟨rfl,rfl⟩,λh=>absurd h (by decide)⟩
 rename_i ha
 split at h
 .
  rename_i st hc;cases h;refine ⟨λh=>absurd rfl h,λ_=>?_⟩
  obtain ⟨t,h1,h2,h3,h4,h5,_,_,h8⟩:=eP l _ 1 ⟨a,0,[],0,0⟩ st (by decide) (by simp) (by show a<=_;omega) hc
  have h2:st.x=t.post 0:=by rw[h2];rfl
  refine ⟨?_,h3,h4⟩;rw[h2] at h8 ⊢;exact Lf h1 (by rw[T.eJ] at h8;exact h8)
 .
  rename_i st hc;cases h;exact ⟨λ_=>⟨rfl,rfl⟩,λh=>absurd h (xq l _ _ _ st hc)⟩
 cases h
end Go.Px

namespace Go.Pp
open Go.Px
abbrev Rg:=Int×Int
abbrev Mm:=(Int×Int)×(Int×Int)×Int×Int×Int
abbrev Raw:=Int×(Int×Int)×((Int×Int)×(Int×Int)×Int×Int×Int)×List Nd×Bool
def JB:List (List UInt8×Int×Int):=[([98,121,116,101],1,0),([119,111,114,100],2,0),([100,119,111,114,100],4,0),([113,119,111,114,100],8,0),([111,119,111,114,100],16,0),([121,119,111,114,100],32,0),([115,104,111,114,116],0,1),([110,101,97,114],0,2),([115,116,114,105,99,116],0,3)]
def dQ (t:Tok):Int×Int:=if t.1=1 then ep t.2.2.1 JB else (0,0)
def dY (t:Tok) (s:List UInt8):Bool:=decide (t.1=1)&&decide (t.2.2.1=s)
def aN (l:List Tok) (a:Int) (s:List UInt8):Bool:=match at? l a with
 |some t=>dO t s
 |none=>false
def ri (t:Tok):Bool := !decide (t.1=4)||(decide (t.2.2.1=[36])||(decide (t.2.2.1=[36,36])||decide (t.2.2.1=[41])))
def fK (op:Int):Bool:=decide (op=53)||(decide (op=54)||decide (68<=op/\op<=83))
def lC (c n:Int):Bool:=decide (c=5/\0<=n/\n<16)
def sizedB (n:Int):Bool:=decide (n=0\/n=1\/n=2\/n=4\/n=8\/n=16\/n=32)
def cO (n:Int):Bool:=decide (n=1\/n=2\/n=4\/n=8)
def l9 (c n:Int):Bool:=decide (c=0)&&decide (n=0)
def Ao (c n:Int):Bool:=decide (c=8)&&decide (n=0)
def mG (c n:Int):Bool:=decide (c=5)&&decide (n=4)
def ud (bc bn ic ix sc d sz:Int):Int :=
 if d < -2147483648\/2147483647<d then 5
 else if sizedB sz=false then 2
 else if l9 bc bn=false/\Ao bc bn=false/\lC bc bn=false then 2
 else if l9 ic ix=true then (if sc=0 then 0 else 2)
 else if lC ic ix=false\/cO sc=false\/Ao bc bn=true then 2
 else if mG ic ix=true/\(sc≠1\/mG bc bn=true) then 2
 else 0
def dK:List Tok->Int->Int->Option Int
 |[],_,_=>none
 |
  t::r,a,d=>if dO t [40]=true then dK r (a+1) (d+1) else if dO t [41]=true then dK r (a+1) (if 0<d-1 then d-1 else 0)
  else if d=0/\dO t [93]=true then some a else dK r (a+1) d
def cP (e:Int):Tok->List Tok->Int->Int->Int
 |_,[],_,_=>e
 |
  p,t::r,a,d=>if dO t [40]=true then cP e t r (a+1) (d+1) else if dO t [41]=true then cP e t r (a+1) (if 0<d-1 then d-1 else 0)
  else if d=0/\(dO t [43]=true\/dO t [45]=true)/\ri p=true then a else cP e t r (a+1) d
def zh:Tok:=(0,0,[],0)
def dA (l:List Tok) (a:Int):Option Int:=dK (l.drop a.toNat) a 0
def bx (l:List Tok) (a e:Int):Int:=cP e ((at? l (a-1)).getD zh) ((l.take e.toNat).drop a.toNat) a 0
structure TS where
 bc:Int
 bn:Int
 ic:Int
 ix:Int
 sc:Int
 put:List Tok
abbrev js:=Bool×Int×Int×TS
def ee (s:TS) (e f:Int):js:=(false,e,f,s)
def okO (s:TS):js:=(true,0,0,s)
section
variable (rp:List UInt8->Int×Int×Bool) (l:List Tok)
def dZ (t:Tok):Option Rg:=if t.1=1/\(rp t.2.2.1).2.2=true/\(rp t.2.2.1).1≠8 then some ((rp t.2.2.1).1,(rp t.2.2.1).2.1) else none
def fH (sg:List UInt8) (r:Rg) (a:Int) (s:TS):js :=
 if sg=[45] then ee s 2 a else if s.bc=0/\s.bn=0 then okO { s with bc:=r.1,bn:=r.2 }
 else if s.ic=0/\s.ix=0 then okO { s with ic:=r.1,ix:=r.2,sc:=1 } else ee s 2 a
def dB (sg:List UInt8) (r:Rg) (a num n:Int) (s:TS):js :=
 if sg=[45]\/¬(s.ic=0/\s.ix=0) then ee s 2 a
 else if cO n=true then okO { s with ic:=r.1,ix:=r.2,sc:=n } else ee s 2 num
def zi (l:List Tok) (a b:Int):List Tok:=(l.drop a.toNat).take (b.toNat-a.toNat)
def iP (sg:List UInt8) (a b:Int) (s:TS):js :=
 okO { s with put:=(if sg=[45]\/s.put≠[] then s.put++[oF sg] else s.put)++[oF [40]]++zi l a b++[oF [41]] }
def dR (sg:List UInt8) (a b:Int) (s:TS):js :=
 if b-a=0 then ee s 4 a
 else if b-a=1 then match at? l a with
  |
   some t=>if dY t [114,105,112]=true then fH sg (8,0) a s else match dZ rp t with
   |some r=>fH sg r a s
   |none=>iP l sg a b s
  |none=>ee s 0 0
 else if b-a=3/\aN l (a+1) [42]=true then match at? l a,at? l (a+2) with
  |
   some t,some u=>match dZ rp t,dZ rp u with
   |some r,some q=>if u.1=2 then dB sg r a (a+2) u.2.1 s else if t.1=2 then dB sg q a a t.2.1 s else iP l sg a b s
   |some r,none=>if u.1=2 then dB sg r a (a+2) u.2.1 s else iP l sg a b s
   |none,some q=>if t.1=2 then dB sg q a a t.2.1 s else iP l sg a b s
   |none,none=>iP l sg a b s
  |_,_=>ee s 0 0
 else iP l sg a b s
def gw (e:Int):Nat->List UInt8->Int->TS->Option js
 |0,_,_,_=>none
 |
  n+1,sg,a,s=>match dR rp l sg a (bx l a e) s with
  |
   (true,_,_,s')=>if bx l a e=e then some (okO s') else match at? l (bx l a e) with
   |some t=>gw e n t.2.2.1 (bx l a e+1) s'
   |none=>none
  |(false,x,f,s')=>some (ee s' x f)
end
end Go.Pp
