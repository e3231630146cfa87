
set_option linter.unusedVariables false
set_option linter.unusedSimpArgs false
/- Expressions: what reading them comes to, and what they are told as; trees. Expressions: whether one may be, the tokens of one, a text that is told and read again. Operands and instructions: what reading them comes to. -/

namespace Go.Px
abbrev Tok:=Int×Int×List UInt8×Int
abbrev Nd:=Int×Int×List UInt8×Int×Int
def at? {α:Type} (l:List α) (i:Int):Option α :=
 match i with
 |.ofNat n=>l[n]?
 |.negSucc _=>none
def jw (t:Tok) (s:List UInt8):Bool:=decide (t.1=4)&&decide (t.2.2.1=s)
def vQ (nm:List UInt8->Bool) (t:Tok):Option Nd :=
 if t.1=2 then some (1,t.2.1,[],0,0)
 else if t.1=1/\nm t.2.2.1=true then some (2,0,t.2.2.1,0,0)
 else if jw t [36]=true then some (3,0,[],0,0)
 else if jw t [36,36]=true then some (4,0,[],0,0)
 else none
def pref (t:Tok):Option Int :=
 if jw t [45]=true then some 5 else if jw t [126]=true then some 6 else if jw t [43]=true then some 0 else none
def adQ:List (List UInt8×Int×Int):=[([42],7,6),([47],8,6),([37],9,6),([43],10,5),([45],11,5),([60,60],12,4),([62,62],13,4),([38],14,3),([94],15,2),([124],16,1)]
def ek (s:List UInt8):List (List UInt8×Int×Int)->Int×Int
 |[]=>(0,0)
 |q::l=>if s=q.1 then q.2 else ek s l
def bin (t:Tok):Int×Int:=if t.1=4 then ek t.2.2.1 adQ else (0,0)
structure St where
 a:Int
 d:Int
 x:List Nd
 e:Int
 f:Int
abbrev fP:=Option (Bool×St)
def uu (st:St) (e f:Int):fP:=some (false,{ st with e:=e,f:=f })
def mz (st:St) (n:Nd) (f:Int) (k:St->fP):fP:=if st.x.length=200 then uu st 3 f else k { st with x:=st.x++[n] }
def mA (st:St) (k:St->fP):fP:=if st.d=50 then uu st 3 st.a else k { st with d:=st.d+1,a:=st.a+1 }
def IV (r:fP) (k:St->fP):fP :=
 match r with
 |some (true,st)=>k st
 |some (false,st)=>some (false,st)
 |none=>none
section
variable (nm:List UInt8->Bool) (l:List Tok)
def kX (rec:Int->St->fP) (st:St) (k:St->fP):fP :=
 match at? l st.a with
 |none=>uu st 4 st.a
 |
  some t=>match vQ nm t with
  |some n=>mz { st with a:=st.a+1 } n st.a k
  |
   none=>match pref t with
   |some op=>mA st λs1=>IV (rec 7 s1) λs2 =>
    if op=0 then k { s2 with d:=s2.d-1 } else mz { s2 with d:=s2.d-1 } (op,0,[],s2.x.length-1,0) st.a k
   |
    none=>if jw t [40]=true then mA st λs1=>IV (rec 1 s1) λs2=>match at? l s2.a with
     |none=>uu s2 4 s2.a
     |some c=>if jw c [41]=true then k { s2 with d:=s2.d-1,a:=s2.a+1 } else uu s2 4 s2.a
    else uu st 4 st.a
def fC (rec:Int->St->fP) (str:Int):Nat->St->fP
 |0,_=>none
 |
  n+1,st=>match at? l st.a with
  |none=>some (true,st)
  |some t=>if (bin t).2<str then some (true,st) else
   IV (rec ((bin t).2+1) { st with a:=st.a+1 }) λs2=>mz s2 ((bin t).1,0,[],st.x.length-1,s2.x.length-1) st.a (fC rec str n)
def bw:Nat->Int->St->fP
 |0=>λ_ _=>none
 |k+1=>λstr st=>kX nm l (bw k) st (fC l (bw k) str (l.length+1))
end
inductive T where
 |leaf (n:Nd)
 |un (op:Int) (a:T)
 |bi (op:Int) (a b:T)
def T.size:T->Nat
 |.leaf _=>1
 |.un _ a=>a.size+1
 |.bi _ a b=>a.size+b.size+1
theorem T.size_pos:∀t:T,0<t.size
 |.leaf _=>Nat.zero_lt_one
 |.un _ _=>Nat.succ_pos _
 |.bi _ _ _=>Nat.succ_pos _
def T.post (b:Nat):T->List Nd
 |.leaf n=>[n]
 |.un op a=>a.post b++[(op,0,[],((b+a.size:Nat):Int)-1,0)]
 |.bi op u v=>u.post b++(v.post (b+u.size)++[(op,0,[],((b+u.size:Nat):Int)-1,((b+u.size+v.size:Nat):Int)-1)])
theorem T.eK:∀(t:T) (b:Nat),(t.post b).length=t.size
 |.leaf _,_=>rfl
 |.un _ a,b=>by simp[T.post,T.size,a.eK b]
 |.bi _ u v,b=>by simp[T.post,T.size,u.eK b,v.eK (b+u.size)];omega
def DV (nm:List UInt8->Bool) (n:Nd):Prop :=
 (∃k,n=(1,k,[],0,0))\/(∃s,n=(2,0,s,0,0)/\nm s=true)\/n=(3,0,[],0,0)\/n=(4,0,[],0,0)
def T.ok (nm:List UInt8->Bool):T->Prop
 |.leaf n=>DV nm n
 |.un op a=>(op=5\/op=6)/\a.ok nm
 |.bi op u v=>7<=op/\op<=16/\u.ok nm/\v.ok nm
def gm (op:Int):List UInt8 :=
 if op=3 then [36] else if op=4 then [36,36] else if op=5\/op=11 then [45] else if op=6 then [126] else if op=7 then [42] else if op=8 then [47]
 else if op=9 then [37] else if op=10 then [43] else if op=12 then [60,60] else if op=13 then [62,62] else if op=14 then [38] else if op=15 then [94] else [124]
def oa (s:List UInt8):Tok:=(4,0,s,0)
def KG (n:Nd):Tok:=if n.1=1 then (2,n.2.1,[],0) else if n.1=2 then (1,0,n.2.2.1,0) else oa (gm n.1)
def T.toks (w:Bool):T->List Tok
 |.leaf n=>[KG n]
 |.un op a=>oa (gm op)::a.toks false
 |.bi op u v=>(if w then [] else [oa [40]])++(u.toks false++(oa (gm op)::(v.toks false++(if w then [] else [oa [41]]))))
theorem sV {α:Type} (p r:List α) (c:α):at? (p++c::r) ((p.length:Nat):Int)=some c:=by
 show (p++c::r)[p.length]? = some c
 simp
def ahh (t:Tok):Prop:=(bin t).2=0
def akX (r:fP):Prop:=∃st,r=some (false,st)/\st.e=3
variable {nm:List UInt8->Bool}
def T.need:T->Nat
 |.leaf _=>0
 |.un _ a=>a.need+1
 |.bi _ u v=>max u.need v.need+2
def ai5 (str:Int) (suf:List Tok):Prop:=match suf with
 |[]=>True
 |t::_=>(bin t).2<str
theorem dm {α:Type} {l:List α} {i:Int} {c:α} (h:at? l i=some c):0<=i/\i<(l.length:Int):=by
 unfold at? at h
 split at h
 .
  rename_i n;have:=(List.getElem?_eq_some_iff.1 h).1;simp;omega
 cases h
theorem T5 {t:Tok} {n:Nd} (h:vQ nm t=some n):DV nm n:=by
 unfold vQ at h
 split at h
 .
  cases h;exact .inl ⟨_,rfl⟩
 split at h
 .
  rename_i h2;cases h;exact .inr (.inl ⟨_,rfl,h2.2⟩)
 split at h
 .
  cases h;exact .inr (.inr (.inl rfl))
 split at h
 .
  cases h;exact .inr (.inr (.inr rfl))
 cases h
theorem T6 {t:Tok} {op:Int} (h:pref t=some op):op=0\/op=5\/op=6:=by
 unfold pref at h
 split at h
 .
  cases h;omega
 split at h
 .
  cases h;omega
 split at h
 .
  cases h;omega
 cases h
theorem Qe {t:Tok} (h:1<=(bin t).2):7<=(bin t).1/\(bin t).1<=16/\(bin t).2<=6:=by
 have key:∀(s:List UInt8) (m:List (List UInt8×Int×Int)),(∀q∈m,7<=q.2.1/\q.2.1<=16/\q.2.2<=6)->1<=(ek s m).2->7<=(ek s m).1/\(ek s m).1<=16/\(ek s m).2<=6:=by
  intro s m
  induction m with
  |nil=>intro _ h;exact absurd h (by show ¬(1:Int)<=0;decide)
  |
   cons q m ih =>
   intro hm h;unfold ek at h ⊢;split
   .
    exact hm q (List.mem_cons_self ..)
   rename_i hq;rw[if_neg hq] at h;exact ih (λx hx=>hm x (List.mem_cons_of_mem _ hx)) h
 unfold bin at h ⊢
 split
 .
  rename_i ht;rw[if_pos ht] at h;exact key _ _ (by decide) h
 rename_i ht
 rw[if_neg ht] at h
 exact absurd h (by show ¬(1:Int)<=0;decide)
def Grown (nm:List UInt8->Bool) (l:List Tok) (st st':St):Prop :=
 ∃t:T,t.ok nm/\st'.x=st.x++t.post st.x.length/\st.a<st'.a/\st'.a<=(l.length:Int)/\st'.d=st.d/\st'.e=st.e/\st'.f=st.f/\st'.x.length<=200
theorem go_inv {r:fP} {k:St->fP} {st':St} (h:IV r k=some (true,st')):∃s,r=some (true,s)/\k s=some (true,st'):=by
 unfold IV at h
 split at h
 .
  exact ⟨_,rfl,h⟩
 .
  cases h
 cases h
theorem zL {st:St} {n:Nd} {f:Int} {k:St->fP} {st':St} (h:mz st n f k=some (true,st')):st.x.length≠200/\k { st with x:=st.x++[n] }=some (true,st'):=by
 unfold mz at h
 split at h
 .
  cases h
 rename_i h1;exact ⟨h1,h⟩
theorem Gr {st:St} {k:St->fP} {st':St} (h:mA st k=some (true,st')):k { st with d:=st.d+1,a:=st.a+1 }=some (true,st'):=by
 unfold mA at h
 split at h
 .
  cases h
 exact h
theorem zM {l:List Tok} {rec:Int->St->fP} (hrec:∀s st st',st.x.length<=200->st.a<=(l.length:Int)->rec s st=some (true,st')->Grown nm l st st') {str:Int} (h1:1<=str):∀(n:Nat) (st0 st st':St),Grown nm l st0 st->fC l rec str n st=some (true,st')->Grown nm l st0 st'
 |0,_,_,_,_,h=>by cases h
 |
  n+1,st0,st,st',hg,h=>by
  unfold fC at h;split at h
  .
   cases h;exact hg
  rename_i tok cH;split at h
  .
   cases h;exact hg
  rename_i akZ;obtain ⟨s2,h2,h3⟩:=go_inv h;obtain ⟨h4,h5⟩:=zL h3;obtain ⟨t,k1,k2,k3,k4,k5,k6,k7,k8⟩:=hg;have hlt:=dm cH;obtain ⟨u,m1,m2,m3,m4,m5,m6,m7,m8⟩:=hrec _ { st with a:=st.a+1 } _ k8 (by show st.a+1<=_;omega) h2
  have hb:=Qe (t:=tok) (by omega)
  refine zM hrec h1 n st0 { s2 with x:=s2.x++[((bin tok).1,0,[],(st.x.length:Int)-1,(s2.x.length:Int)-1)] } st' ?_ h5
  refine ⟨.bi (bin tok).1 t u,⟨hb.1,hb.2.1,k1,m1⟩,?_,by show st0.a<s2.a;have:st.a+1<s2.a:=m3;omega,m4,by show s2.d=_;rw[m5];exact k5,by show s2.e=_;rw[m6];exact k6,by show s2.f=_;rw[m7];exact k7,?_⟩
  .
   show s2.x++[_]=_;have e2:s2.x=st.x++u.post st.x.length:=m2;have el:st.x.length=st0.x.length+t.size:=by rw[k2,List.length_append,T.eK]
   have el2:s2.x.length=st0.x.length+t.size+u.size:=by rw[e2,List.length_append,T.eK,el]
   rw[el2,e2,el,k2];simp only[T.post,List.append_assoc]
  show (s2.x++[_]).length<=200;have:s2.x.length<=200:=m8;simp;omega
theorem eR (l:List Tok):∀(k:Nat) (str:Int) (st st':St),1<=str->st.x.length<=200->st.a<=(l.length:Int)->bw nm l k str st=some (true,st')->Grown nm l st st'
 |0,_,_,_,_,_,_,h=>by cases h
 |
  k+1,str,st,st',hs,hx,ha,h=>by
  have h:kX nm l (bw nm l k) st (fC l (bw nm l k) str (l.length+1))=some (true,st'):=h
  have KH:∀s1,Grown nm l st s1->fC l (bw nm l k) str (l.length+1) s1=some (true,st')->Grown nm l st st':=λs1 hg hm =>
   zM (rec:=λs st=>if 1<=s then bw nm l k s st else none) (λs a b hxa haa hr=>by
    split at hr
    .
     rename_i h1;exact eR l k s a b h1 hxa haa hr
    cases hr) hs (l.length+1) st s1 st' hg (by
    have:∀n s,fC l (λs st=>if 1<=s then bw nm l k s st else none) str n s=fC l (bw nm l k) str n s:=by
     intro n
     induction n with
     |zero=>intro s;rfl
     |
      succ n ih =>
      intro s;unfold fC;split
      .
       rfl
      split
      .
       rfl
      rename_i tok _ hlt;rw[if_pos (by omega)]
      congr 1
      funext s2
      rw[show fC l (λs st=>if 1<=s then bw nm l k s st else none) str n=fC l (bw nm l k) str n from funext ih]
    rw[this];exact hm)
  unfold kX at h;split at h
  .
   cases h
  rename_i tok cH;have hlt:=dm cH;split at h
  .
   rename_i n hn;obtain ⟨h4,h5⟩:=zL h;refine KH { st with a:=st.a+1,x:=st.x++[n] } ⟨.leaf n,T5 hn,rfl,by show st.a<st.a+1;omega,by show st.a+1<=_;omega,rfl,rfl,rfl,?_⟩ h5
   show (st.x++[n]).length<=200;have:st.x.length≠200:=h4;simp;omega
  split at h
  .
   rename_i op hp;have h:=Gr h;obtain ⟨s2,h2,h3⟩:=go_inv h;obtain ⟨u,m1,m2,m3,m4,m5,m6,m7,m8⟩:=eR l k 7 { st with d:=st.d+1,a:=st.a+1 } s2 (by decide) hx (by show st.a+1<=_;omega) h2
   have m3:st.a+1<s2.a:=m3;have m5:s2.d=st.d+1:=m5;split at h3
   .
    refine KH { s2 with d:=s2.d-1 } ⟨u,m1,m2,by show st.a<s2.a;omega,m4,by show s2.d-1=st.d;omega,m6,m7,m8⟩ h3
   rename_i hop;obtain ⟨h4,h5⟩:=zL h3;have h4:s2.x.length≠200:=h4;refine KH { s2 with d:=s2.d-1,x:=s2.x++[(op,0,[],(s2.x.length:Int)-1,0)] } ⟨.un op u,⟨by have:=T6 hp;omega,m1⟩,?_,by show st.a<s2.a;omega,m4,by show s2.d-1=st.d;omega,m6,m7,?_⟩ h5
   .
    show s2.x++[_]=_;have e2:s2.x=st.x++u.post st.x.length:=m2;rw[e2];simp[T.post,T.eK]
   show (s2.x++[_]).length<=200;have:s2.x.length<=200:=m8;simp;omega
  split at h
  .
   have h:=Gr h;obtain ⟨s2,h2,h3⟩:=go_inv h;obtain ⟨u,m1,m2,m3,m4,m5,m6,m7,m8⟩:=eR l k 1 { st with d:=st.d+1,a:=st.a+1 } s2 (by decide) hx (by show st.a+1<=_;omega) h2
   have m3:st.a+1<s2.a:=m3;have m5:s2.d=st.d+1:=m5;split at h3
   .
    cases h3
   rename_i c hc;have YI:=dm hc;split at h3
   .
    exact KH { s2 with d:=s2.d-1,a:=s2.a+1 } ⟨u,m1,m2,by show st.a<s2.a+1;omega,by show s2.a+1<=_;omega,by show s2.d-1=st.d;omega,m6,m7,m8⟩ h3
   cases h3
  cases h
theorem go_some {r:fP} {k:St->fP} (h:∃x,r=some x) (hk:∀s,r=some (true,s)->∃y,k s=some y):∃y,IV r k=some y:=by
 obtain ⟨⟨b,s⟩,rfl⟩:=h
 cases b with
 |true=>exact hk s rfl
 |false=>exact ⟨_,rfl⟩
theorem vR {st:St} {n:Nd} {f:Int} {k:St->fP} (hk:st.x.length≠200->∃y,k { st with x:=st.x++[n] }=some y):∃y,mz st n f k=some y:=by
 unfold mz
 split
 .
  exact ⟨_,rfl⟩
 rename_i h;exact hk h
theorem Cj {st:St} {k:St->fP} (hk:∃y,k { st with d:=st.d+1,a:=st.a+1 }=some y):∃y,mA st k=some y:=by
 unfold mA
 split
 .
  exact ⟨_,rfl⟩
 exact hk
theorem mB (l:List Tok):∀(k:Nat) (str:Int) (st:St),1<=str->st.x.length<=200->0<=st.a->st.a<=(l.length:Int)->(l.length:Int)-st.a<k->∃r,bw nm l k str st=some r
 |0,_,_,_,_,_,_,h=>by omega
 |
  k+1,str,st,hs,hx,h0,ha,hk=>by
  have more:∀(n:Nat) (s:St),s.x.length<=200->st.a<s.a->s.a<=(l.length:Int)->(l.length:Int)-s.a<n->∃r,fC l (bw nm l k) str n s=some r:=by
   intro n
   induction n with
   |zero=>intro s _ _ _ h;omega
   |
    succ n ih =>
    intro s hsx hsa hsl hn;unfold fC;split
    .
     exact ⟨_,rfl⟩
    rename_i tok cH;have hlt:=dm cH;split
    .
     exact ⟨_,rfl⟩
    refine go_some (mB l k _ { s with a:=s.a+1 } (by omega) hsx (by show 0<=s.a+1;omega) (by show s.a+1<=_;omega) (by show _-(s.a+1)<_;omega)) λs2 h2=>vR λhne=>?_
    obtain ⟨u,m1,m2,m3,m4,m5,m6,m7,m8⟩:=eR l k _ { s with a:=s.a+1 } s2 (by omega) hsx (by show s.a+1<=_;omega) h2
    have m3:s.a+1<s2.a:=m3;exact ih _ (by show (s2.x++[_]).length<=200;simp;omega) (by show st.a<s2.a;omega) m4 (by show _-s2.a<_;omega)
  show ∃r,kX nm l (bw nm l k) st (fC l (bw nm l k) str (l.length+1))=some r;unfold kX;split
  .
   exact ⟨_,rfl⟩
  rename_i tok cH;have hlt:=dm cH;split
  .
   exact vR λhne=>more _ _ (by show (st.x++[_]).length<=200;have:st.x.length≠200:=hne;simp;omega) (by show st.a<st.a+1;omega) (by show st.a+1<=_;omega) (by show _-(st.a+1)<_;omega)
  split
  .
   refine Cj (go_some (mB l k 7 { st with d:=st.d+1,a:=st.a+1 } (by decide) hx (by show 0<=st.a+1;omega) (by show st.a+1<=_;omega) (by show _-(st.a+1)<_;omega)) λs2 h2=>?_)
   obtain ⟨u,m1,m2,m3,m4,m5,m6,m7,m8⟩:=eR l k _ { st with d:=st.d+1,a:=st.a+1 } s2 (by decide) hx (by show st.a+1<=_;omega) h2
   have m3:st.a+1<s2.a:=m3;split
   .
    exact more _ _ m8 (by show st.a<s2.a;omega) m4 (by show _-s2.a<_;omega)
   exact vR λhne=>more _ _ (by show (s2.x++[_]).length<=200;have:s2.x.length≠200:=hne;simp;omega) (by show st.a<s2.a;omega) m4 (by show _-s2.a<_;omega)
  split
  .
   refine Cj (go_some (mB l k 1 { st with d:=st.d+1,a:=st.a+1 } (by decide) hx (by show 0<=st.a+1;omega) (by show st.a+1<=_;omega) (by show _-(st.a+1)<_;omega)) λs2 h2=>?_)
   obtain ⟨u,m1,m2,m3,m4,m5,m6,m7,m8⟩:=eR l k _ { st with d:=st.d+1,a:=st.a+1 } s2 (by decide) hx (by show st.a+1<=_;omega) h2
   have m3:st.a+1<s2.a:=m3;split
   .
    exact ⟨_,rfl⟩
   rename_i c hc;have YI:=dm hc;split
   .
    exact more _ _ m8 (by show st.a<s2.a+1;omega) (by show s2.a+1<=_;omega) (by show _-(s2.a+1)<_;omega)
   exact ⟨_,rfl⟩
  exact ⟨_,rfl⟩
end Go.Px

namespace Go.Px
variable {nm:List UInt8->Bool}
def bL (nm:List UInt8->Bool) (n:Nd):Bool :=
 decide (1<=n.1)&&decide (n.1<=16)&&(decide (n.1=1)||decide (n.2.1=0))&&(if n.1=2 then nm n.2.2.1 else decide (n.2.2.1=[]))&&(!decide (n.1<=4)||decide (n.2.2.2.1=0))&&(decide (6<n.1)||decide (n.2.2.2.2=0))
def zQ (i:Int) (n:Nd) (o:List Int):Option (List Int) :=
 if n.1<=4 then some (o++[i])
 else if n.1<=6 then (if o.length<1\/o[o.length-1]? ≠ some n.2.2.2.1 then none else some (o.take (o.length-1)++[i]))
 else (if o.length<2\/o[o.length-2]? ≠ some n.2.2.2.1\/o[o.length-1]? ≠ some n.2.2.2.2 then none else some (o.take (o.length-2)++[i]))
def od (nm:List UInt8->Bool):Nat->List Nd->List Int->Int
 |_,[],o=>if o.length=1 then 0 else 2
 |
  i,n::r,o=>if bL nm n=true then (match zQ i n o with
  |some o'=>od nm (i+1) r o'
  |none=>2) else 2
def jo (nm:List UInt8->Bool) (x:List Nd):Int:=if 200<x.length then 3 else od nm 0 x []
def o9:List T->Nat
 |[]=>0
 |t::r=>o9 r+t.size
def qs:List T->List Nd
 |[]=>[]
 |t::r=>qs r++t.post (o9 r)
def dQ:List T->List Int
 |[]=>[]
 |t::r=>dQ r++[((o9 r+t.size:Nat):Int)-1]
theorem vU:∀r:List T,(qs r).length=o9 r
 |[]=>rfl
 |t::r=>by rw[qs,List.length_append,vU r,T.eK,o9]
theorem vV:∀r:List T,(dQ r).length=r.length
 |[]=>rfl
 |t::r=>by rw[dQ,List.length_append,vV r];rfl
theorem Gt {n:Nd} (h:bL nm n=true) (h4:n.1<=4):DV nm n:=by
 obtain ⟨op,k,s,L,R⟩:=n
 simp only[bL,Bool.and_eq_true,Bool.or_eq_true,decide_eq_true_eq,Bool.not_eq_true',decide_eq_false_iff_not] at h
 simp only at h4
 obtain ⟨⟨⟨⟨⟨h1,h2⟩,h3⟩,h5⟩,h6⟩,h7⟩:=h
 have hL:L=0:=by omega
 have hR:R=0:=by omega
 subst hL;subst hR
 obtain rfl|rfl|rfl|rfl:op=1\/op=2\/op=3\/op=4:=by omega
 .
  rw[if_neg (by decide)] at h5
  have:s=[]:=of_decide_eq_true h5;subst this;exact .inl ⟨k,rfl⟩
 .
  have:k=0:=by omega
  subst this;rw[if_pos rfl] at h5;exact .inr (.inl ⟨s,rfl,h5⟩)
 .
  have:k=0:=by omega
  subst this;rw[if_neg (by decide)] at h5
  have:s=[]:=of_decide_eq_true h5;subst this;exact .inr (.inr (.inl rfl))
 have:k=0:=by omega
 subst this
 rw[if_neg (by decide)] at h5
 have:s=[]:=of_decide_eq_true h5
 subst this;exact .inr (.inr (.inr rfl))
theorem My {n:Nd} (h:bL nm n=true) (h4:¬n.1<=4):n.2.1=0/\n.2.2.1=[]/\n.1<=16/\(n.1<=6->n.2.2.2.2=0):=by
 obtain ⟨op,k,s,L,R⟩:=n
 simp only[bL,Bool.and_eq_true,Bool.or_eq_true,decide_eq_true_eq,Bool.not_eq_true',decide_eq_false_iff_not] at h
 simp only at h4 ⊢
 obtain ⟨⟨⟨⟨⟨h1,h2⟩,h3⟩,h5⟩,h6⟩,h7⟩:=h
 rw[if_neg (by omega)] at h5
 exact ⟨by omega,of_decide_eq_true h5,h2,λh=>by omega⟩
theorem zT (o:List Int) (a:Int):(o++[a])[(o++[a]).length-1]? = some a:=by simp
theorem Co (o:List Int) (a:Int):(o++[a]).take ((o++[a]).length-1)=o:=by simp
theorem zU:∀(x:List Nd) (f:List T),(∀t∈f,t.ok nm)->od nm (o9 f) x (dQ f)=0->∃t:T,t.ok nm/\qs f++x=t.post 0
 |
  [],f,hok,h=>by
  unfold od at h;split at h
  .
   rename_i hl;rw[vV] at hl
   match f,hl with
   |[t],_=>exact ⟨t,hok t (by simp),by simp[qs,o9]⟩
  exact absurd h (by decide)
 |
  n::x,f,hok,h=>by
  unfold od at h;split at h
  .
   rename_i hf;split at h
   .
    rename_i o' ho
    have go:∀(f':List T),(∀t∈f',t.ok nm)->qs f'=qs f++[n]->dQ f'=o'->∃t:T,t.ok nm/\qs f++(n::x)=t.post 0:=λf' hok' hp hr=>by
     have hsz:o9 f'=o9 f+1:=by rw[<-vU,hp,List.length_append,vU];rfl
     rw[<-hr,<-hsz] at h;obtain ⟨t,k1,k2⟩:=zU x f' hok' h;exact ⟨t,k1,by rw[<-k2,hp];simp⟩
    unfold zQ at ho;split at ho
    .
     rename_i h4;cases ho;refine go (.leaf n::f) (λt ht=>?_) rfl ?_
     .
      rcases List.mem_cons.1 ht with rfl|ht
      .
       exact Gt hf h4
      exact hok t ht
     simp only[dQ,T.size];congr 2;omega
    rename_i h4;obtain ⟨e1,e2,e3,e4⟩:=My hf h4;obtain ⟨op,k,s,L,R⟩:=n;simp only at e1 e2 e3 e4 h4;subst e1;subst e2;split at ho
    .
     rename_i h6;simp only at h6;have hR:=e4 h6;subst hR;split at ho
     .
      cases ho
     rename_i hc;cases ho
     match f,hok with
     |[],_=>exact absurd (Or.inl (by simp[dQ])) hc
     |
      a::r,hok =>
      have hL:(dQ (a::r))[(dQ (a::r)).length-1]? = some L:=Classical.byContradiction λhn=>hc (.inr hn)
      rw[dQ,zT] at hL;have hL:=Option.some.inj hL;refine go (.un op a::r) (λt ht=>?_) ?_ ?_
      .
       rcases List.mem_cons.1 ht with rfl|ht
       .
        exact ⟨by omega,hok a (by simp)⟩
       exact hok t (by simp[ht])
      .
       simp only[qs,T.post,hL,List.append_assoc]
      rw[dQ,dQ,Co];simp only[T.size,o9];congr 2;omega
    rename_i h6;simp only at h6;split at ho
    .
     cases ho
    rename_i hc;cases ho
    match f,hok with
    |[],_=>exact absurd (Or.inl (by simp[dQ])) hc
    |[_],_=>exact absurd (Or.inl (by simp[dQ])) hc
    |
     b::a::r,hok =>
     have hlen:(dQ (b::a::r)).length=(dQ r).length+2:=by simp[vV]
     have hR:(dQ (b::a::r))[(dQ (b::a::r)).length-1]? = some R:=Classical.byContradiction λhn=>hc (.inr (.inr hn))
     have hL:(dQ (b::a::r))[(dQ (b::a::r)).length-2]? = some L:=Classical.byContradiction λhn=>hc (.inr (.inl hn))
     rw[dQ,zT] at hR;have hR:=Option.some.inj hR;rw[hlen,dQ,dQ] at hL;simp only[Nat.add_sub_cancel,List.append_assoc] at hL;rw[List.getElem?_append_right (Nat.le_refl _)] at hL;simp only[Nat.sub_self,List.singleton_append,List.getElem?_cons_zero] at hL;have hL:=Option.some.inj hL;refine go (.bi op a b::r) (λt ht=>?_) ?_ ?_
     .
      rcases List.mem_cons.1 ht with rfl|ht
      .
       exact ⟨by omega,e3,hok a (by simp),hok b (by simp)⟩
      exact hok t (by simp[ht])
     .
      simp only[qs,o9] at hL hR ⊢;simp only[T.post,hL,hR,List.append_assoc]
     have e2:(dQ (b::a::r)).take ((dQ (b::a::r)).length-2)=dQ r:=by
      rw[hlen,dQ,dQ];simp
     rw[e2,dQ];simp only[T.size,o9];congr 2;omega
   exact absurd h (by decide)
  exact absurd h (by decide)
theorem Qs {x:List Nd} (h:jo nm x=0):∃t:T,t.ok nm/\x=t.post 0/\x.length<=200:=by
 unfold jo at h
 split at h
 .
  exact absurd h (by decide)
 rename_i hl
 obtain ⟨t,h1,h2⟩:=zU x [] (λt ht=>by simp at ht) h
 exact ⟨t,h1,by simpa[qs] using h2,by omega⟩
theorem Gu {n:Nd} (h:DV nm n):bL nm n=true/\n.1<=4:=by
 rcases h with ⟨k,rfl⟩|⟨s,rfl,hs⟩|rfl|rfl
 .
  exact ⟨by simp[bL],by show (1:Int)<=4;decide⟩
 .
  exact ⟨by simp[bL,hs],by show (2:Int)<=4;decide⟩
 .
  exact ⟨by simp[bL],by show (3:Int)<=4;decide⟩
 exact ⟨by simp[bL],by show (4:Int)<=4;decide⟩
theorem uv:∀(t:T),t.ok nm->∀(i:Nat) (r:List Nd) (o:List Int),od nm i (t.post i++r) o=od nm (i+t.size) r (o++[((i+t.size:Nat):Int)-1])
 |
  .leaf n,h,i,r,o=>by
  obtain ⟨h1,h2⟩:=Gu h;show od nm i (n::r) o=_;rw[od,if_pos h1];unfold zQ;rw[if_pos h2];simp only[T.size]
  congr 3;omega
 |
  .un op a,⟨hop,ha⟩,i,r,o=>by
  have e:(T.un op a).post i++r=a.post i++((op,0,[],((i+a.size:Nat):Int)-1,0)::r):=by simp[T.post]
  rw[e,uv a ha,od,if_pos (by rcases hop with rfl|rfl<;>simp[bL])]
  unfold zQ;simp only;rw[if_neg (by omega),if_pos (by omega),if_neg (by rw[zT];simp),Co]
  show od nm (i+a.size+1) r (o++[((i+a.size:Nat):Int)])=od nm (i+a.size+1) r (o++[((i+a.size+1:Nat):Int)-1]);rw[show ((i+a.size+1:Nat):Int)-1=((i+a.size:Nat):Int) by omega]
 |
  .bi op u v,⟨h7,h16,hu,hv⟩,i,r,o=>by
  have e:(T.bi op u v).post i++r=u.post i++(v.post (i+u.size)++((op,0,[],((i+u.size:Nat):Int)-1,((i+u.size+v.size:Nat):Int)-1)::r)):=by simp[T.post]
  rw[e,uv u hu,uv v hv,od,if_pos (by
   simp only[bL,Bool.and_eq_true,Bool.or_eq_true,decide_eq_true_eq,Bool.not_eq_true',decide_eq_false_iff_not];rw[if_neg (by omega)]
   refine ⟨⟨⟨⟨⟨by omega,by omega⟩,.inr trivial⟩,by simp⟩,.inl (by omega)⟩,.inl (by omega)⟩)]
  unfold zQ;simp only;rw[if_neg (by omega),if_neg (by omega),if_neg (by simp)]
  have et:(o++[((i+u.size:Nat):Int)-1]++[((i+u.size+v.size:Nat):Int)-1]).take ((o++[((i+u.size:Nat):Int)-1]++[((i+u.size+v.size:Nat):Int)-1]).length-2)=o:=by simp
  rw[et];show od nm (i+u.size+v.size+1) r (o++[((i+u.size+v.size:Nat):Int)])=od nm (i+(u.size+v.size+1)) r (o++[((i+(u.size+v.size+1):Nat):Int)-1]);rw[show i+(u.size+v.size+1)=i+u.size+v.size+1 by omega,show ((i+u.size+v.size+1:Nat):Int)-1=((i+u.size+v.size:Nat):Int) by omega]
theorem Mz {t:T} (h:t.ok nm) (hs:t.size<=200):jo nm (t.post 0)=0:=by
 unfold jo
 rw[T.eK,if_neg (by omega)]
 have:=uv t h 0 [] []
 rw[List.append_nil] at this
 rw[this]
 rfl
def eL (x:List Nd):Nat->Int->Bool->Option (List Tok)
 |0,_,_=>none
 |
  k+1,a,w=>match at? x a with
  |none=>none
  |
   some n =>
   if n.1=1 then some [(2,n.2.1,[],0)]
   else if n.1=2 then some [(1,0,n.2.2.1,0)]
   else if n.1<=4 then some [oa (gm n.1)]
   else if n.1<=6 then (match eL x k n.2.2.2.1 false with
    |some u=>some (oa (gm n.1)::u)
    |none=>none)
   else (match eL x k n.2.2.2.1 false,eL x k n.2.2.2.2 false with
    |some u,some v=>some ((if w then [] else [oa [40]])++(u++(oa (gm n.1)::(v++(if w then [] else [oa [41]])))))
    |_,_=>none)
theorem qX:∀(t:T),t.ok nm->∀(x p r:List Nd) (k:Nat) (w:Bool),x=p++(t.post p.length++r)->t.size<=k->eL x k (((p.length+t.size:Nat):Int)-1) w=some (t.toks w)
 |
  .leaf n,h,x,p,r,k,w,hx,hk=>by
  obtain ⟨k,rfl⟩:∃k',k=k'+1:=⟨k-1,by simp only[T.size] at hk;omega⟩
  have cH:at? x (((p.length+1:Nat):Int)-1)=some n:=by
   have:((p.length+1:Nat):Int)-1=((p.length:Nat):Int):=by omega
   rw[this,hx];exact sV p r n
  simp only[T.size];unfold eL;rw[cH];rcases h with ⟨k,rfl⟩|⟨s,rfl,hs⟩|rfl|rfl<;>rfl
 |
  .un op a,⟨hop,ha⟩,x,p,r,k,w,hx,hk=>by
  obtain ⟨k,rfl⟩:∃k',k=k'+1:=⟨k-1,by simp only[T.size] at hk;omega⟩
  have hx1:x=p++(a.post p.length++((op,0,[],((p.length+a.size:Nat):Int)-1,0)::r)):=by rw[hx];simp[T.post]
  have cH:at? x (((p.length+(a.size+1):Nat):Int)-1)=some (op,0,[],((p.length+a.size:Nat):Int)-1,0):=by
   have e1:((p.length+(a.size+1):Nat):Int)-1=(((p++a.post p.length).length:Nat):Int):=by simp[T.eK];omega
   rw[e1,hx1,<-List.append_assoc];exact sV _ _ _
  have ih:=qX a ha x p _ k false hx1 (by simp only[T.size] at hk;omega)
  simp only[T.size];unfold eL;rw[cH];simp only;rw[if_neg (by omega),if_neg (by omega),if_neg (by omega),if_pos (by omega),ih]
  rfl
 |
  .bi op u v,⟨h7,h16,hu,hv⟩,x,p,r,k,w,hx,hk=>by
  obtain ⟨k,rfl⟩:∃k',k=k'+1:=⟨k-1,by simp only[T.size] at hk;omega⟩
  have hx1:x=p++(u.post p.length++(v.post (p.length+u.size)++((op,0,[],((p.length+u.size:Nat):Int)-1,((p.length+u.size+v.size:Nat):Int)-1)::r))):=by rw[hx];simp[T.post]
  have hpl:(p++u.post p.length).length=p.length+u.size:=by simp[T.eK]
  have hx2:x=(p++u.post p.length)++(v.post (p++u.post p.length).length++((op,0,[],((p.length+u.size:Nat):Int)-1,((p.length+u.size+v.size:Nat):Int)-1)::r)):=by rw[hpl,hx1];simp
  have cH:at? x (((p.length+(u.size+v.size+1):Nat):Int)-1)=some (op,0,[],((p.length+u.size:Nat):Int)-1,((p.length+u.size+v.size:Nat):Int)-1):=by
   have e1:((p.length+(u.size+v.size+1):Nat):Int)-1=((((p++u.post p.length)++v.post (p.length+u.size)).length:Nat):Int):=by simp[T.eK];omega
   rw[e1,hx1];have:p++(u.post p.length++(v.post (p.length+u.size)++((op,0,[],((p.length+u.size:Nat):Int)-1,((p.length+u.size+v.size:Nat):Int)-1)::r)))=((p++u.post p.length)++v.post (p.length+u.size))++((op,0,[],((p.length+u.size:Nat):Int)-1,((p.length+u.size+v.size:Nat):Int)-1)::r):=by simp
   rw[this];exact sV _ _ _
  have ih1:=qX u hu x p _ k false hx1 (by simp only[T.size] at hk;omega)
  have ih2:=qX v hv x (p++u.post p.length) _ k false hx2 (by simp only[T.size] at hk;omega)
  rw[hpl] at ih2;simp only[T.size];unfold eL;rw[cH];simp only;rw[if_neg (by omega),if_neg (by omega),if_neg (by omega),if_neg (by omega),ih1,ih2]
  rfl
def jQ (nm:List UInt8->Bool) (l:List Tok) (a:Int):Option (List Nd×Int×Int×Int) :=
 if a<0\/(l.length:Int)<a then some ([],0,2,0) else
 match bw nm l (l.length+1) 1 ⟨a,0,[],0,0⟩ with
 |some (true,st)=>some (st.x,st.a,0,0)
 |some (false,st)=>some ([],0,st.e,st.f)
 |none=>none
theorem mD (l:List Tok) (a:Int):∃r,jQ nm l a=some r:=by
 unfold jQ
 split
 .
  exact ⟨_,rfl⟩
 rename_i h
 obtain ⟨⟨b,st⟩,hr⟩:=mB (nm:=nm) l (l.length+1) 1 ⟨a,0,[],0,0⟩ (by decide) (by simp) (by show 0<=a;omega) (by show a<=_;omega) (by show _-a<_;omega)
 rw[hr]
 cases b<;>exact ⟨_,rfl⟩
def kL (r:fP):Prop:=∀st,r=some (false,st)->st.e≠0
theorem vW (st:St) {e:Int} (f:Int) (h:e≠0):kL (uu st e f):=λs hs=>by cases hs;exact h
theorem go_f {r:fP} {k:St->fP} (h:kL r) (hk:∀s,kL (k s)):kL (IV r k):=λst hs=>by
 unfold IV at hs
 split at hs
 .
  exact hk _ st hs
 .
  cases hs;exact h _ rfl
 cases hs
theorem IY {st:St} {n:Nd} {f:Int} {k:St->fP} (hk:∀s,kL (k s)):kL (mz st n f k):=by
 unfold mz
 split
 .
  exact vW _ _ (by decide)
 exact hk _
theorem Qt {st:St} {k:St->fP} (hk:∀s,kL (k s)):kL (mA st k):=by
 unfold mA
 split
 .
  exact vW _ _ (by decide)
 exact hk _
theorem Qu {l:List Tok} {rec:Int->St->fP} (hr:∀s st,kL (rec s st)) (str:Int):∀(n:Nat) (st:St),kL (fC l rec str n st)
 |0,st=>λ_ h=>by cases h
 |
  n+1,st=>by
  unfold fC;split
  .
   intro _ h;cases h
  split
  .
   intro _ h;cases h
  exact go_f (hr _ _) λs=>IY λs=>Qu hr str n s
theorem x9 (l:List Tok):∀(k:Nat) (str:Int) (st:St),kL (bw nm l k str st)
 |0,_,_=>λ_ h=>by cases h
 |
  k+1,str,st=>by
  have ih:=x9 l k;show kL (kX nm l (bw nm l k) st (fC l (bw nm l k) str (l.length+1)));have hm:=Qu (l:=l) ih str (l.length+1);unfold kX;split
  .
   exact vW _ _ (by decide)
  split
  .
   exact IY hm
  split
  .
   refine Qt λs=>go_f (ih _ _) λs=>?_
   split
   .
    exact hm _
   exact IY hm
  split
  .
   refine Qt λs=>go_f (ih _ _) λs=>?_
   split
   .
    exact vW _ _ (by decide)
   split
   .
    exact hm _
   exact vW _ _ (by decide)
  exact vW _ _ (by decide)
theorem uw {l:List Tok} {a:Int} {y:List Nd} {e f g:Int} (h:jQ nm l a=some (y,e,f,g)):(f≠0->y=[]/\e=0)/\(f=0->jo nm y=0/\a<e/\e<=(l.length:Int)):=by
 unfold jQ at h
 split at h
 .
  cases h;exact ⟨λ_=>⟨rfl,rfl⟩,λh=>absurd h (by decide)⟩
 rename_i ha
 split at h
 .
  rename_i st hc;cases h;refine ⟨λh=>absurd rfl h,λ_=>?_⟩
  obtain ⟨t,h1,h2,h3,h4,h5,_,_,h8⟩:=eR l _ 1 ⟨a,0,[],0,0⟩ st (by decide) (by simp) (by show a<=_;omega) hc
  have h2:st.x=t.post 0:=by rw[h2];rfl
  refine ⟨?_,h3,h4⟩;rw[h2] at h8 ⊢;exact Mz h1 (by rw[T.eK] at h8;exact h8)
 .
  rename_i st hc;cases h;exact ⟨λ_=>⟨rfl,rfl⟩,λh=>absurd h (x9 l _ _ _ st hc)⟩
 cases h
end Go.Px

namespace Go.Pp
open Go.Px
abbrev Rg:=Int×Int
abbrev Mm:=(Int×Int)×(Int×Int)×Int×Int×Int
abbrev Raw:=Int×(Int×Int)×((Int×Int)×(Int×Int)×Int×Int×Int)×List Nd×Bool
def KM:List (List UInt8×Int×Int):=[([98,121,116,101],1,0),([119,111,114,100],2,0),([100,119,111,114,100],4,0),([113,119,111,114,100],8,0),([111,119,111,114,100],16,0),([121,119,111,114,100],32,0),([115,104,111,114,116],0,1),([110,101,97,114],0,2),([115,116,114,105,99,116],0,3)]
def jq (t:Tok):Int×Int:=if t.1=1 then ek t.2.2.1 KM else (0,0)
def kM (t:Tok) (s:List UInt8):Bool:=decide (t.1=1)&&decide (t.2.2.1=s)
def aX (l:List Tok) (a:Int) (s:List UInt8):Bool:=match at? l a with
 |some t=>jw t s
 |none=>false
def xg (t:Tok):Bool := !decide (t.1=4)||(decide (t.2.2.1=[36])||(decide (t.2.2.1=[36,36])||decide (t.2.2.1=[41])))
def ng (op:Int):Bool:=decide (op=53)||(decide (op=54)||decide (68<=op/\op<=83))
def qu (c n:Int):Bool:=decide (c=5/\0<=n/\n<16)
def sizedB (n:Int):Bool:=decide (n=0\/n=1\/n=2\/n=4\/n=8\/n=16\/n=32)
def gK (n:Int):Bool:=decide (n=1\/n=2\/n=4\/n=8)
def qw (c n:Int):Bool:=decide (c=0)&&decide (n=0)
def Gv (c n:Int):Bool:=decide (c=8)&&decide (n=0)
def nG (c n:Int):Bool:=decide (c=5)&&decide (n=4)
def Ba (bc bn ic ix sc d sz:Int):Int :=
 if d < -2147483648\/2147483647<d then 5
 else if sizedB sz=false then 2
 else if qw bc bn=false/\Gv bc bn=false/\qu bc bn=false then 2
 else if qw ic ix=true then (if sc=0 then 0 else 2)
 else if qu ic ix=false\/gK sc=false\/Gv bc bn=true then 2
 else if nG ic ix=true/\(sc≠1\/nG bc bn=true) then 2
 else 0
def jR:List Tok->Int->Int->Option Int
 |[],_,_=>none
 |
  t::r,a,d=>if jw t [40]=true then jR r (a+1) (d+1) else if jw t [41]=true then jR r (a+1) (if 0<d-1 then d-1 else 0)
  else if d=0/\jw t [93]=true then some a else jR r (a+1) d
def ni (e:Int):Tok->List Tok->Int->Int->Int
 |_,[],_,_=>e
 |
  p,t::r,a,d=>if jw t [40]=true then ni e t r (a+1) (d+1) else if jw t [41]=true then ni e t r (a+1) (if 0<d-1 then d-1 else 0)
  else if d=0/\(jw t [43]=true\/jw t [45]=true)/\xg p=true then a else ni e t r (a+1) d
def QF:Tok:=(0,0,[],0)
def fK (l:List Tok) (a:Int):Option Int:=jR (l.drop a.toNat) a 0
def bR (l:List Tok) (a e:Int):Int:=ni e ((at? l (a-1)).getD QF) ((l.take e.toNat).drop a.toNat) a 0
structure TS where
 bc:Int
 bn:Int
 ic:Int
 ix:Int
 sc:Int
 put:List Tok
abbrev jx:=Bool×Int×Int×TS
def eS (s:TS) (e f:Int):jx:=(false,e,f,s)
def okO (s:TS):jx:=(true,0,0,s)
section
variable (rp:List UInt8->Int×Int×Bool) (l:List Tok)
def jU (t:Tok):Option Rg:=if t.1=1/\(rp t.2.2.1).2.2=true/\(rp t.2.2.1).1≠8 then some ((rp t.2.2.1).1,(rp t.2.2.1).2.1) else none
def fL (sg:List UInt8) (r:Rg) (a:Int) (s:TS):jx :=
 if sg=[45] then eS s 2 a else if s.bc=0/\s.bn=0 then okO { s with bc:=r.1,bn:=r.2 }
 else if s.ic=0/\s.ix=0 then okO { s with ic:=r.1,ix:=r.2,sc:=1 } else eS s 2 a
def cX (sg:List UInt8) (r:Rg) (a num n:Int) (s:TS):jx :=
 if sg=[45]\/¬(s.ic=0/\s.ix=0) then eS s 2 a
 else if gK n=true then okO { s with ic:=r.1,ix:=r.2,sc:=n } else eS s 2 num
def I4 (l:List Tok) (a b:Int):List Tok:=(l.drop a.toNat).take (b.toNat-a.toNat)
def kN (sg:List UInt8) (a b:Int) (s:TS):jx :=
 okO { s with put:=(if sg=[45]\/s.put≠[] then s.put++[oa sg] else s.put)++[oa [40]]++I4 l a b++[oa [41]] }
def fS (sg:List UInt8) (a b:Int) (s:TS):jx :=
 if b-a=0 then eS s 4 a
 else if b-a=1 then match at? l a with
  |
   some t=>if kM t [114,105,112]=true then fL sg (8,0) a s else match jU rp t with
   |some r=>fL sg r a s
   |none=>kN l sg a b s
  |none=>eS s 0 0
 else if b-a=3/\aX l (a+1) [42]=true then match at? l a,at? l (a+2) with
  |
   some t,some u=>match jU rp t,jU rp u with
   |some r,some q=>if u.1=2 then cX sg r a (a+2) u.2.1 s else if t.1=2 then cX sg q a a t.2.1 s else kN l sg a b s
   |some r,none=>if u.1=2 then cX sg r a (a+2) u.2.1 s else kN l sg a b s
   |none,some q=>if t.1=2 then cX sg q a a t.2.1 s else kN l sg a b s
   |none,none=>kN l sg a b s
  |_,_=>eS s 0 0
 else kN l sg a b s
def iK (e:Int):Nat->List UInt8->Int->TS->Option jx
 |0,_,_,_=>none
 |
  n+1,sg,a,s=>match fS rp l sg a (bR l a e) s with
  |
   (true,_,_,s')=>if bR l a e=e then some (okO s') else match at? l (bR l a e) with
   |some t=>iK e n t.2.2.1 (bR l a e+1) s'
   |none=>none
  |(false,x,f,s')=>some (eS s' x f)
end
end Go.Pp
