/- Expressions: what reading them comes to, and what they are told as; trees. Expressions: whether one may be, the tokens of one, a text that is told and read again. Expressions: their numbers, their names; plain. Operands and instructions: what reading them comes to. -/
import Derived.Test.YtbeckacfibledaaGreatDoorLya
set_option linter.unusedVariables false
set_option linter.unusedSimpArgs false

namespace Go.Px
abbrev Tok:=Int×Int×List UInt8×Int
abbrev Nd:=Int×Int×List UInt8×Int×Int
def at? {α:Type}(l:List α)(i:Int):Option α :=
 match i with
 |.ofNat n=>l[n]?
 |.negSucc _=>none
def pY (t:Tok)(s:List UInt8):Bool:=decide (t.1=4)&&decide (t.2.2.1=s)
def B3 (nm:List UInt8->Bool)(t:Tok):Option Nd :=
 if t.1=2 then some (1,t.2.1,[],0,0)
 else if t.1=1/\nm t.2.2.1=true then some (2,0,t.2.2.1,0,0)
 else if pY t [36]=true then some (3,0,[],0,0)
 else if pY t [36,36]=true then some (4,0,[],0,0)
 else none
def pref (t:Tok):Option Int :=
 if pY t [45]=true then some 5 else if pY t [126]=true then some 6 else if pY t [43]=true then some 0 else none
def alC:List (List UInt8×Int×Int):=[([42],7,6),([47],8,6),([37],9,6),([43],10,5),([45],11,5),([60,60],12,4),([62,62],13,4),([38],14,3),([94],15,2),([124],16,1)]
def kL (s:List UInt8):List (List UInt8×Int×Int)->Int×Int
 |[]=>(0,0)
 |q::l=>if s=q.1 then q.2 else kL s l
def bin (t:Tok):Int×Int:=if t.1=4 then kL t.2.2.1 alC else (0,0)
structure St where
 a:Int
 d:Int
 x:List Nd
 e:Int
 f:Int
abbrev mW:=Option (Bool×St)
def AG (st:St)(e f:Int):mW:=some (false,{ st with e:=e,f:=f })
def sO (st:St)(n:Nd)(f:Int)(k:St->mW):mW:=if st.x.length=200 then AG st 3 f else k { st with x:=st.x++[n] }
def sP (st:St)(k:St->mW):mW:=if st.d=50 then AG st 3 st.a else k { st with d:=st.d+1,a:=st.a+1 }
def Pe (r:mW)(k:St->mW):mW :=
 match r with
 |some (true,st)=>k st
 |some (false,st)=>some (false,st)
 |none=>none
section
variable (nm:List UInt8->Bool) (l:List Tok)
def rD (rec:Int->St->mW)(st:St)(k:St->mW):mW :=
 match at? l st.a with
 |none=>AG st 4 st.a
 |some t=>match B3 nm t with
  |some n=>sO { st with a:=st.a+1 } n st.a k
  |none=>match pref t with
   |some op=>sP st λs1=>Pe (rec 7 s1) λs2 =>
    if op=0 then k { s2 with d:=s2.d-1 } else sO { s2 with d:=s2.d-1 } (op,0,[],s2.x.length-1,0) st.a k
   |none=>if pY t [40]=true then sP st λs1=>Pe (rec 1 s1) λs2=>match at? l s2.a with
     |none=>AG s2 4 s2.a
     |some c=>if pY c [41]=true then k { s2 with d:=s2.d-1,a:=s2.a+1 } else AG s2 4 s2.a
    else AG st 4 st.a
def mz (rec:Int->St->mW)(str:Int):Nat->St->mW
 |0,_=>none
 |n+1,st=>match at? l st.a with
  |none=>some (true,st)
  |some t=>if (bin t).2<str then some (true,st) else
   Pe (rec ((bin t).2+1) { st with a:=st.a+1 }) λs2=>sO s2 ((bin t).1,0,[],st.x.length-1,s2.x.length-1) st.a (mz rec str n)
def eM:Nat->Int->St->mW
 |0=>λ_ _=>none
 |k+1=>λstr st=>rD nm l (eM k) st (mz l (eM k) str (l.length+1))
end
inductive T where
 |leaf (n:Nd)
 |un (op:Int) (a:T)
 |bi (op:Int) (a b:T)
def T.size:T->Nat
 |.leaf _=>1
 |.un _ a=>a.size+1
 |.bi _ a b=>a.size+b.size+1
def T.post (b:Nat):T->List Nd
 |.leaf n=>[n]
 |.un op a=>a.post b++[(op,0,[],((b+a.size:Nat):Int)-1,0)]
 |.bi op u v=>u.post b++(v.post (b+u.size)++[(op,0,[],((b+u.size:Nat):Int)-1,((b+u.size+v.size:Nat):Int)-1)])
theorem T.qT:∀(t:T) (b:Nat),(t.post b).length=t.size
 |.leaf _,_=>rfl
 |.un _ a,b=>by simp[T.post,T.size,a.qT b]
 |.bi _ u v,b=>by simp[T.post,T.size,u.qT b,v.qT (b+u.size)];omega
def JA (nm:List UInt8->Bool)(n:Nd):Prop :=
 (∃k,n=(1,k,[],0,0))\/(∃s,n=(2,0,s,0,0)/\nm s=true)\/n=(3,0,[],0,0)\/n=(4,0,[],0,0)
def T.ok (nm:List UInt8->Bool):T->Prop
 |.leaf n=>JA nm n
 |.un op a=>(op=5\/op=6)/\a.ok nm
 |.bi op u v=>7<=op/\op<=16/\u.ok nm/\v.ok nm
def Gj (s:List UInt8):Tok:=(4,0,s,0)
theorem JB {α:Type}(p r:List α)(c:α):at? (p++c::r) ((p.length:Nat):Int)=some c:=by
 show (p++c::r)[p.length]? = some c;simp
variable {nm:List UInt8->Bool}
theorem jo {α:Type}{l:List α}{i:Int}{c:α}(h:at? l i=some c):0<=i/\i<(l.length:Int):=by
 unfold at? at h;split at h
 .rename_i n;have:=(bx.1 h).1;simp;omega
 cases h
theorem aaR {t:Tok}{n:Nd}(h:B3 nm t=some n):JA nm n:=by
 unfold B3 at h;split at h
 .cases h;exact .inl ⟨_,rfl⟩
 split at h
 .rename_i h2;cases h;exact .inr (.inl ⟨_,rfl,h2.2⟩)
 split at h
 .cases h;exact .inr (.inr (.inl rfl))
 split at h
 .cases h;exact .inr (.inr (.inr rfl))
 cases h
theorem aaS {t:Tok}{op:Int}(h:pref t=some op):op=0\/op=5\/op=6:=by
 unfold pref at h;split at h
 .cases h;omega
 split at h
 .cases h;omega
 split at h
 .cases h;omega
 cases h
theorem WX {t:Tok}(h:1<=(bin t).2):7<=(bin t).1/\(bin t).1<=16/\(bin t).2<=6:=by
 have key:∀(s:List UInt8) (m:List (List UInt8×Int×Int)),(∀q∈m,7<=q.2.1/\q.2.1<=16/\q.2.2<=6)->1<=(kL s m).2->7<=(kL s m).1/\(kL s m).1<=16/\(kL s m).2<=6:=by
  intro s m;induction m with
  |nil=>intro _ h;exact absurd h (by show ¬(1:Int)<=0;decide)
  |cons q m ih =>
   intro hm h;unfold kL at h ⊢;split
   .exact hm q (cF ..)
   rename_i hq;rw[aa hq]at h;exact ih (λx hx=>hm x (bE _ hx)) h
 unfold bin at h ⊢;split
 .rename_i ht;rw[ag ht]at h;exact key _ _ (by decide) h
 rename_i ht;rw[aa ht]at h;exact absurd h (by show ¬(1:Int)<=0;decide)
def Grown (nm:List UInt8->Bool)(l:List Tok)(st st':St):Prop :=
 ∃t:T,t.ok nm/\st'.x=st.x++t.post st.x.length/\st.a<st'.a/\st'.a<=(l.length:Int)/\st'.d=st.d/\st'.e=st.e/\st'.f=st.f/\st'.x.length<=200
theorem go_inv {r:mW}{k:St->mW}{st':St}(h:Pe r k=some (true,st')):∃s,r=some (true,s)/\k s=some (true,st'):=by
 unfold Pe at h;split at h
 .exact ⟨_,rfl,h⟩
 .cases h
 cases h
theorem E7 {st:St}{n:Nd}{f:Int}{k:St->mW}{st':St}(h:sO st n f k=some (true,st')):st.x.length≠200/\k { st with x:=st.x++[n] }=some (true,st'):=by
 unfold sO at h;split at h
 .cases h
 rename_i h1;exact⟨h1,h⟩
theorem Mk {st:St}{k:St->mW}{st':St}(h:sP st k=some (true,st')):k { st with d:=st.d+1,a:=st.a+1 }=some (true,st'):=by
 unfold sP at h;split at h
 .cases h
 exact h
theorem E8 {l:List Tok}{rec:Int->St->mW}(hrec:∀s st st',st.x.length<=200->st.a<=(l.length:Int)->rec s st=some (true,st')->Grown nm l st st'){str:Int}(h1:1<=str):∀(n:Nat) (st0 st st':St),Grown nm l st0 st->mz l rec str n st=some (true,st')->Grown nm l st0 st'
 |0,_,_,_,_,h=>by cases h
 |n+1,st0,st,st',hg,h=>by
  unfold mz at h;split at h
  .cases h;exact hg
  rename_i tok jG;split at h
  .cases h;exact hg
  rename_i as2;obtain⟨s2,h2,h3⟩:=go_inv h;obtain⟨h4,h5⟩:=E7 h3;obtain⟨t,k1,k2,k3,k4,k5,k6,k7,k8⟩:=hg;have hlt:=jo jG;obtain⟨u,m1,m2,m3,m4,m5,m6,m7,m8⟩:=hrec _ { st with a:=st.a+1 } _ k8 (by show st.a+1<=_;omega) h2;have hb:=WX (t:=tok) (by omega);refine E8 hrec h1 n st0 { s2 with x:=s2.x++[((bin tok).1,0,[],(st.x.length:Int)-1,(s2.x.length:Int)-1)] } st' ?_ h5;refine⟨.bi (bin tok).1 t u,⟨hb.1,hb.2.1,k1,m1⟩,?_,by show st0.a<s2.a;have:st.a+1<s2.a:=m3;omega,m4,by show s2.d=_;rw[m5];exact k5,by show s2.e=_;rw[m6];exact k6,by show s2.f=_;rw[m7];exact k7,?_⟩
  .show s2.x++[_]=_;have e2:s2.x=st.x++u.post st.x.length:=m2;have el:st.x.length=st0.x.length+t.size:=by rw[k2,aA,T.qT]
   have el2:s2.x.length=st0.x.length+t.size+u.size:=by rw[e2,aA,T.qT,el]
   rw[el2,e2,el,k2];simp only[T.post,bM]
  show (s2.x++[_]).length<=200;have:s2.x.length<=200:=m8;simp;omega
theorem lI (l:List Tok):∀(k:Nat) (str:Int) (st st':St),1<=str->st.x.length<=200->st.a<=(l.length:Int)->eM nm l k str st=some (true,st')->Grown nm l st st'
 |0,_,_,_,_,_,_,h=>by cases h
 |k+1,str,st,st',hs,hx,ha,h=>by
  have h:rD nm l (eM nm l k) st (mz l (eM nm l k) str (l.length+1))=some (true,st'):=h;have Rf:∀s1,Grown nm l st s1->mz l (eM nm l k) str (l.length+1) s1=some (true,st')->Grown nm l st st':=λs1 hg hm =>
   E8 (rec:=λs st=>if 1<=s then eM nm l k s st else none) (λs a b hxa haa hr=>by
    split at hr
    .rename_i h1;exact lI l k s a b h1 hxa haa hr
    cases hr) hs (l.length+1) st s1 st' hg (by
    have:∀n s,mz l (λs st=>if 1<=s then eM nm l k s st else none) str n s=mz l (eM nm l k) str n s:=by
     intro n;induction n with
     |zero=>intro s;rfl
     |succ n ih =>
      intro s;unfold mz;split
      .rfl
      split
      .rfl
      rename_i tok _ hlt;rw[ag (by omega)];congr 1
      funext s2
      rw[show mz l (λs st=>if 1<=s then eM nm l k s st else none) str n=mz l (eM nm l k) str n from funext ih]
    rw[this];exact hm)
  unfold rD at h;split at h
  .cases h
  rename_i tok jG;have hlt:=jo jG;split at h
  .rename_i n hn;obtain⟨h4,h5⟩:=E7 h;refine Rf { st with a:=st.a+1,x:=st.x++[n] } ⟨.leaf n,aaR hn,rfl,by show st.a<st.a+1;omega,by show st.a+1<=_;omega,rfl,rfl,rfl,?_⟩ h5;show (st.x++[n]).length<=200;have:st.x.length≠200:=h4;simp;omega
  split at h
  .rename_i op hp;have h:=Mk h;obtain⟨s2,h2,h3⟩:=go_inv h;obtain⟨u,m1,m2,m3,m4,m5,m6,m7,m8⟩:=lI l k 7 { st with d:=st.d+1,a:=st.a+1 } s2 (by decide) hx (by show st.a+1<=_;omega) h2;have m3:st.a+1<s2.a:=m3;have m5:s2.d=st.d+1:=m5;split at h3
   .refine Rf { s2 with d:=s2.d-1 } ⟨u,m1,m2,by show st.a<s2.a;omega,m4,by show s2.d-1=st.d;omega,m6,m7,m8⟩ h3
   rename_i hop;obtain⟨h4,h5⟩:=E7 h3;have h4:s2.x.length≠200:=h4;refine Rf { s2 with d:=s2.d-1,x:=s2.x++[(op,0,[],(s2.x.length:Int)-1,0)] } ⟨.un op u,⟨by have:=aaS hp;omega,m1⟩,?_,by show st.a<s2.a;omega,m4,by show s2.d-1=st.d;omega,m6,m7,?_⟩ h5
   .show s2.x++[_]=_;have e2:s2.x=st.x++u.post st.x.length:=m2;rw[e2];simp[T.post,T.qT]
   show (s2.x++[_]).length<=200;have:s2.x.length<=200:=m8;simp;omega
  split at h
  .have h:=Mk h;obtain⟨s2,h2,h3⟩:=go_inv h;obtain⟨u,m1,m2,m3,m4,m5,m6,m7,m8⟩:=lI l k 1 { st with d:=st.d+1,a:=st.a+1 } s2 (by decide) hx (by show st.a+1<=_;omega) h2;have m3:st.a+1<s2.a:=m3;have m5:s2.d=st.d+1:=m5;split at h3
   .cases h3
   rename_i c hc;have agj:=jo hc;split at h3
   .exact Rf { s2 with d:=s2.d-1,a:=s2.a+1 } ⟨u,m1,m2,by show st.a<s2.a+1;omega,by show s2.a+1<=_;omega,by show s2.d-1=st.d;omega,m6,m7,m8⟩ h3
   cases h3
  cases h
theorem go_some {r:mW}{k:St->mW}(h:∃x,r=some x)(hk:∀s,r=some (true,s)->∃y,k s=some y):∃y,Pe r k=some y:=by
 obtain⟨⟨b,s⟩,rfl⟩:=h;cases b with
 |true=>exact hk s rfl
 |false=>exact⟨_,rfl⟩
theorem B4 {st:St}{n:Nd}{f:Int}{k:St->mW} (hk:st.x.length≠200->∃y,k { st with x:=st.x++[n] }=some y):∃y,sO st n f k=some y:=by
 unfold sO;split
 .exact ⟨_,rfl⟩
 rename_i h;exact hk h
theorem Hx {st:St}{k:St->mW} (hk:∃y,k { st with d:=st.d+1,a:=st.a+1 }=some y):∃y,sP st k=some y:=by
 unfold sP;split
 .exact ⟨_,rfl⟩
 exact hk
theorem sQ (l:List Tok):∀(k:Nat) (str:Int) (st:St),1<=str->st.x.length<=200->0<=st.a->st.a<=(l.length:Int)->(l.length:Int)-st.a<k->∃r,eM nm l k str st=some r
 |0,_,_,_,_,_,_,h=>by omega
 |k+1,str,st,hs,hx,h0,ha,hk=>by
  have more:∀(n:Nat) (s:St),s.x.length<=200->st.a<s.a->s.a<=(l.length:Int)->(l.length:Int)-s.a<n->∃r,mz l (eM nm l k) str n s=some r:=by
   intro n;induction n with
   |zero=>intro s _ _ _ h;omega
   |succ n ih =>
    intro s hsx hsa hsl hn;unfold mz;split
    .exact ⟨_,rfl⟩
    rename_i tok jG;have hlt:=jo jG;split
    .exact ⟨_,rfl⟩
    refine go_some (sQ l k _ { s with a:=s.a+1 } (by omega) hsx (by show 0<=s.a+1;omega) (by show s.a+1<=_;omega) (by show _-(s.a+1)<_;omega)) λs2 h2=>B4 λhne=>?_
    obtain⟨u,m1,m2,m3,m4,m5,m6,m7,m8⟩:=lI l k _ { s with a:=s.a+1 } s2 (by omega) hsx (by show s.a+1<=_;omega) h2;have m3:s.a+1<s2.a:=m3;exact ih _ (by show (s2.x++[_]).length<=200;simp;omega) (by show st.a<s2.a;omega) m4 (by show _-s2.a<_;omega)
  show ∃r,rD nm l (eM nm l k) st (mz l (eM nm l k) str (l.length+1))=some r;unfold rD;split
  .exact ⟨_,rfl⟩
  rename_i tok jG;have hlt:=jo jG;split
  .exact B4 λhne=>more _ _ (by show (st.x++[_]).length<=200;have:st.x.length≠200:=hne;simp;omega) (by show st.a<st.a+1;omega) (by show st.a+1<=_;omega) (by show _-(st.a+1)<_;omega)
  split
  .refine Hx (go_some (sQ l k 7 { st with d:=st.d+1,a:=st.a+1 } (by decide) hx (by show 0<=st.a+1;omega) (by show st.a+1<=_;omega) (by show _-(st.a+1)<_;omega)) λs2 h2=>?_);obtain⟨u,m1,m2,m3,m4,m5,m6,m7,m8⟩:=lI l k _ { st with d:=st.d+1,a:=st.a+1 } s2 (by decide) hx (by show st.a+1<=_;omega) h2;have m3:st.a+1<s2.a:=m3;split
   .exact more _ _ m8 (by show st.a<s2.a;omega) m4 (by show _-s2.a<_;omega)
   exact B4 λhne=>more _ _ (by show (s2.x++[_]).length<=200;have:s2.x.length≠200:=hne;simp;omega) (by show st.a<s2.a;omega) m4 (by show _-s2.a<_;omega)
  split
  .refine Hx (go_some (sQ l k 1 { st with d:=st.d+1,a:=st.a+1 } (by decide) hx (by show 0<=st.a+1;omega) (by show st.a+1<=_;omega) (by show _-(st.a+1)<_;omega)) λs2 h2=>?_);obtain⟨u,m1,m2,m3,m4,m5,m6,m7,m8⟩:=lI l k _ { st with d:=st.d+1,a:=st.a+1 } s2 (by decide) hx (by show st.a+1<=_;omega) h2;have m3:st.a+1<s2.a:=m3;split
   .exact ⟨_,rfl⟩
   rename_i c hc;have agj:=jo hc;split
   .exact more _ _ m8 (by show st.a<s2.a+1;omega) (by show s2.a+1<=_;omega) (by show _-(s2.a+1)<_;omega)
   exact⟨_,rfl⟩
  exact⟨_,rfl⟩
end Go.Px
namespace Go.Px
variable {nm:List UInt8->Bool}
def fO (nm:List UInt8->Bool)(n:Nd):Bool :=
 decide (1<=n.1)&&decide (n.1<=16)&&(decide (n.1=1)||decide (n.2.1=0))&&(if n.1=2 then nm n.2.2.1 else decide (n.2.2.1=[]))&&(!decide (n.1<=4)||decide (n.2.2.2.1=0))&&(decide (6<n.1)||decide (n.2.2.2.2=0))
def Fb (i:Int)(n:Nd)(o:List Int):Option (List Int) :=
 if n.1<=4 then some (o++[i])
 else if n.1<=6 then (if o.length<1\/o[o.length-1]? ≠ some n.2.2.2.1 then none else some (o.take (o.length-1)++[i]))
 else (if o.length<2\/o[o.length-2]? ≠ some n.2.2.2.1\/o[o.length-1]? ≠ some n.2.2.2.2 then none else some (o.take (o.length-2)++[i]))
def uB (nm:List UInt8->Bool):Nat->List Nd->List Int->Int
 |_,[],o=>if o.length=1 then 0 else 2
 |i,n::r,o=>if fO nm n=true then (match Fb i n o with
  |some o'=>uB nm (i+1) r o'
  |none=>2) else 2
def rT (nm:List UInt8->Bool)(x:List Nd):Int:=if 200<x.length then 3 else uB nm 0 x []
theorem adQ {n:Nd}(h:fO nm n=true)(h4:n.1<=4):JA nm n:=by
 obtain⟨op,k,s,L,R⟩:=n;simp only[fO,ak,cJ,aV,aS,bH]at h;simp only at h4;obtain⟨⟨⟨⟨⟨h1,h2⟩,h3⟩,h5⟩,h6⟩,h7⟩:=h;have hL:L=0:=by omega
 have hR:R=0:=by omega
 subst hL;subst hR;obtain rfl|rfl|rfl|rfl:op=1\/op=2\/op=3\/op=4:=by omega
 .rw[aa (by decide)]at h5;have:s=[]:=fG h5;subst this;exact .inl ⟨k,rfl⟩
 .have:k=0:=by omega
  subst this;rw[ag rfl]at h5;exact .inr (.inl ⟨s,rfl,h5⟩)
 .have:k=0:=by omega
  subst this;rw[aa (by decide)]at h5;have:s=[]:=fG h5;subst this;exact .inr (.inr (.inl rfl))
 have:k=0:=by omega
 subst this;rw[aa (by decide)]at h5;have:s=[]:=fG h5;subst this;exact .inr (.inr (.inr rfl))
theorem Xd (o:List Int)(a:Int):(o++[a])[(o++[a]).length-1]? = some a:=by simp
theorem Tq (o:List Int)(a:Int):(o++[a]).take ((o++[a]).length-1)=o:=by simp
theorem Mm {n:Nd}(h:JA nm n):fO nm n=true/\n.1<=4:=by
 rcases h with⟨k,rfl⟩|⟨s,rfl,hs⟩|rfl|rfl
 .exact ⟨by simp[fO],by show (1:Int)<=4;decide⟩
 .exact ⟨by simp[fO,hs],by show (2:Int)<=4;decide⟩
 .exact ⟨by simp[fO],by show (3:Int)<=4;decide⟩
 exact⟨by simp[fO],by show (4:Int)<=4;decide⟩
theorem AH:∀(t:T),t.ok nm->∀(i:Nat) (r:List Nd) (o:List Int),uB nm i (t.post i++r) o=uB nm (i+t.size) r (o++[((i+t.size:Nat):Int)-1])
 |.leaf n,h,i,r,o=>by
  obtain⟨h1,h2⟩:=Mm h;show uB nm i (n::r) o=_;rw[uB,ag h1];unfold Fb;rw[ag h2];simp only[T.size];congr 3;omega
 |.un op a,⟨hop,ha⟩,i,r,o=>by
  have e:(T.un op a).post i++r=a.post i++((op,0,[],((i+a.size:Nat):Int)-1,0)::r):=by simp[T.post]
  rw[e,AH a ha,uB,ag (by rcases hop with rfl|rfl<;>simp[fO])];unfold Fb;simp only;rw[aa (by omega),ag (by omega),aa (by rw[Xd];simp),Tq];show uB nm (i+a.size+1) r (o++[((i+a.size:Nat):Int)])=uB nm (i+a.size+1) r (o++[((i+a.size+1:Nat):Int)-1]);rw[show ((i+a.size+1:Nat):Int)-1=((i+a.size:Nat):Int) by omega]
 |.bi op u v,⟨h7,h16,hu,hv⟩,i,r,o=>by
  have e:(T.bi op u v).post i++r=u.post i++(v.post (i+u.size)++((op,0,[],((i+u.size:Nat):Int)-1,((i+u.size+v.size:Nat):Int)-1)::r)):=by simp[T.post]
  rw[e,AH u hu,AH v hv,uB,ag (by
   simp only[fO,ak,cJ,aV,aS,bH];rw[aa (by omega)];refine⟨⟨⟨⟨⟨by omega,by omega⟩,.inr trivial⟩,by simp⟩,.inl (by omega)⟩,.inl (by omega)⟩)]
  unfold Fb;simp only;rw[aa (by omega),aa (by omega),aa (by simp)];have et:(o++[((i+u.size:Nat):Int)-1]++[((i+u.size+v.size:Nat):Int)-1]).take ((o++[((i+u.size:Nat):Int)-1]++[((i+u.size+v.size:Nat):Int)-1]).length-2)=o:=by simp
  rw[et];show uB nm (i+u.size+v.size+1) r (o++[((i+u.size+v.size:Nat):Int)])=uB nm (i+(u.size+v.size+1)) r (o++[((i+(u.size+v.size+1):Nat):Int)-1]);rw[show i+(u.size+v.size+1)=i+u.size+v.size+1 by omega,show ((i+u.size+v.size+1:Nat):Int)-1=((i+u.size+v.size:Nat):Int) by omega]
theorem Tt {t:T}(h:t.ok nm)(hs:t.size<=200):rT nm (t.post 0)=0:=by
 unfold rT;rw[T.qT,aa (by omega)];have:=AH t h 0 [] [];rw[fB]at this;rw[this];rfl
def qm (nm:List UInt8->Bool)(l:List Tok)(a:Int):Option (List Nd×Int×Int×Int) :=
 if a<0\/(l.length:Int)<a then some ([],0,2,0) else
 match eM nm l (l.length+1) 1 ⟨a,0,[],0,0⟩ with
 |some (true,st)=>some (st.x,st.a,0,0)
 |some (false,st)=>some ([],0,st.e,st.f)
 |none=>none
theorem vF (l:List Tok)(a:Int):∃r,qm nm l a=some r:=by
 unfold qm;split
 .exact ⟨_,rfl⟩
 rename_i h;obtain⟨⟨b,st⟩,hr⟩:=sQ (nm:=nm) l (l.length+1) 1 ⟨a,0,[],0,0⟩ (by decide) (by simp) (by show 0<=a;omega) (by show a<=_;omega) (by show _-a<_;omega);rw[hr];cases b<;>exact⟨_,rfl⟩
def ru (r:mW):Prop:=∀st,r=some (false,st)->st.e≠0
theorem B7 (st:St){e:Int}(f:Int)(h:e≠0):ru (AG st e f):=λs hs=>by cases hs;exact h
theorem go_f {r:mW}{k:St->mW}(h:ru r)(hk:∀s,ru (k s)):ru (Pe r k):=λst hs=>by
 unfold Pe at hs;split at hs
 .exact hk _ st hs
 .cases hs;exact h _ rfl
 cases hs
theorem Ph {st:St}{n:Nd}{f:Int}{k:St->mW}(hk:∀s,ru (k s)):ru (sO st n f k):=by
 unfold sO;split
 .exact B7 _ _ (by decide)
 exact hk _
theorem Xe {st:St}{k:St->mW}(hk:∀s,ru (k s)):ru (sP st k):=by
 unfold sP;split
 .exact B7 _ _ (by decide)
 exact hk _
theorem Xf {l:List Tok}{rec:Int->St->mW}(hr:∀s st,ru (rec s st))(str:Int):∀(n:Nat) (st:St),ru (mz l rec str n st)
 |0,st=>λ_ h=>by cases h
 |n+1,st=>by
  unfold mz;split
  .intro _ h;cases h
  split
  .intro _ h;cases h
  exact go_f (hr _ _) λs=>Ph λs=>Xf hr str n s
theorem Dy (l:List Tok):∀(k:Nat) (str:Int) (st:St),ru (eM nm l k str st)
 |0,_,_=>λ_ h=>by cases h
 |k+1,str,st=>by
  have ih:=Dy l k;show ru (rD nm l (eM nm l k) st (mz l (eM nm l k) str (l.length+1)));have hm:=Xf (l:=l) ih str (l.length+1);unfold rD;split
  .exact B7 _ _ (by decide)
  split
  .exact Ph hm
  split
  .refine Xe λs=>go_f (ih _ _) λs=>?_
   split
   .exact hm _
   exact Ph hm
  split
  .refine Xe λs=>go_f (ih _ _) λs=>?_
   split
   .exact B7 _ _ (by decide)
   split
   .exact hm _
   exact B7 _ _ (by decide)
  exact B7 _ _ (by decide)
theorem Mn {l:List Tok}{a:Int}{y:List Nd}{e f g:Int}(h:qm nm l a=some (y,e,f,g)):(f≠0->y=[]/\e=0)/\(f=0->rT nm y=0/\a<e/\e<=(l.length:Int)):=by
 unfold qm at h;split at h
 .cases h;exact⟨λ_=>⟨rfl,rfl⟩,λh=>absurd h (by decide)⟩
 rename_i ha;split at h
 .rename_i st hc;cases h;refine⟨λh=>absurd rfl h,λ_=>?_⟩;obtain⟨t,h1,h2,h3,h4,h5,_,_,h8⟩:=lI l _ 1 ⟨a,0,[],0,0⟩ st (by decide) (by simp) (by show a<=_;omega) hc;have h2:st.x=t.post 0:=by rw[h2];rfl
  refine⟨?_,h3,h4⟩;rw[h2]at h8 ⊢;exact Tt h1 (by rw[T.qT]at h8;exact h8)
 .rename_i st hc;cases h;exact⟨λ_=>⟨rfl,rfl⟩,λh=>absurd h (Dy l _ _ _ st hc)⟩
 cases h
end Go.Px
namespace Go.Px
abbrev Sym:=List UInt8×Int×Bool
def J2:List Sym->List UInt8->Option Sym
 |[],_=>none
 |q::l,s=>if q.1=s then some q else J2 l s
def CN (l:List Sym)(s:List UInt8):Option Sym:=J2 l.reverse s
def FE (v:List Int)(i:Int):Int:=(at? v i).getD 0
section
variable (neg inv:Int->Int) (bin:Int->Int->Int->Int×Bool) (l:List Sym) (here start:Int)
def opE (v:List Int)(nd:Nd):Int×Int×Bool :=
 if nd.1=1 then (0,nd.2.1,false)
 else if nd.1=2 then (match CN l nd.2.2.1 with
  |some q=>(0,q.2.1,q.2.2)
  |none=>(6,0,false))
 else if nd.1=3 then (0,here,true)
 else if nd.1=4 then (0,start,true)
 else if nd.1=5 then (0,neg (FE v nd.2.2.2.1),false)
 else if nd.1=6 then (0,inv (FE v nd.2.2.2.1),false)
 else if (bin nd.1 (FE v nd.2.2.2.1) (FE v nd.2.2.2.2)).2=true then (0,(bin nd.1 (FE v nd.2.2.2.1) (FE v nd.2.2.2.2)).1,false)
 else (5,0,false)
def evL:List Nd->Nat->List Int->Bool->Int×Bool×Int
 |[],i,v,p=>(FE v ((i:Int)-1),p,0)
 |nd::r,i,v,p =>
  if (opE neg inv bin l here start v nd).1=0 then evL r (i+1) (v.set i (opE neg inv bin l here start v nd).2.1) (p||(opE neg inv bin l here start v nd).2.2)
  else (0,false,(opE neg inv bin l here start v nd).1)
end
section
variable {neg inv:Int->Int} {bin:Int->Int->Int->Int×Bool}
end
def vI:List Nd->List (List UInt8)->List (List UInt8)
 |[],out=>out
 |nd::r,out=>if nd.1=2/\nd.2.2.1 ∉ out then vI r (out++[nd.2.2.1]) else vI r out
theorem J3:∀(x:List Nd) (out:List (List UInt8)) (s:List UInt8),s∈vI x out↔s∈out\/∃nd∈x,nd.1=2/\nd.2.2.1=s
 |[],out,s=>by simp[vI]
 |nd::r,out,s=>by
  unfold vI;split
  .rename_i h;rw[J3 r];simp only[cz,bt,kH,or_false];constructor
   .rintro ((h1|h1)|⟨n,h1,h2⟩)
    .exact .inl h1
    .exact .inr ⟨nd,.inl rfl,h.1,h1.symm⟩
    exact .inr ⟨n,.inr h1,h2⟩
   rintro (h1|⟨n,rfl|h1,h2,h3⟩)
   .exact .inl (.inl h1)
   .exact .inl (.inr h3.symm)
   exact .inr ⟨n,h1,h2,h3⟩
  rename_i h;rw[J3 r];constructor
  .rintro (h1|⟨n,h1,h2⟩)
   .exact .inl h1
   exact .inr ⟨n,by simp[h1],h2⟩
  rintro (h1|⟨n,h1,h2,h3⟩)
  .exact .inl h1
  rcases bt.1 h1 with rfl|h1
  .left
   by_cases hm:n.2.2.1∈out
   .rw[<-h3];exact hm
   exact absurd ⟨h2,hm⟩ h
  exact .inr ⟨n,h1,h2,h3⟩
def abD:Nat->List Nd->Prop
 |_,[]=>True
 |i,nd::r=>(1<=nd.1/\(4<nd.1->0<=nd.2.2.2.1/\nd.2.2.2.1<(i:Int))/\(6<nd.1->0<=nd.2.2.2.2/\nd.2.2.2.2<(i:Int)))/\abD (i+1) r
theorem DB {nm:List UInt8->Bool}:∀(x:List Nd) (i:Nat) (o:List Int),(∀a∈o,0<=a/\a<(i:Int))->uB nm i x o=0->abD i x
 |[],_,_,_,_=>trivial
 |nd::r,i,o,ho,h=>by
  unfold uB at h;split at h;case isFalse=>omega
  rename_i hf;split at h;case h_2=>omega
  rename_i o' hs;have h1:1<=nd.1:=by
   unfold fO at hf;simp only[ak,aV]at hf;exact hf.1.1.1.1.1
  have sub:∀(n:Nat) (a:Int),a∈o.take n++[(i:Int)]->0<=a/\a<((i+1:Nat):Int):=λn a ha=>by
   rcases cz.1 ha with ha|ha
   .have:=ho a (List.mem_of_mem_take ha);omega
   have:a=i:=by simpa using ha
   omega
  have mem:∀(j:Nat) (z:Int),o[j]? = some z->0<=z/\z<(i:Int):=λj z hz=>ho z (bh hz)
  unfold Fb at hs;split at hs
  .rename_i h4;refine⟨⟨h1,λh=>by omega,λh=>by omega⟩,DB r (i+1) o' ?_ h⟩;simp only[aq]at hs;subst hs;intro a ha;rcases cz.1 ha with ha|ha
   .have:=ho a ha;omega
   have:a=i:=by simpa using ha
   omega
  split at hs
  .rename_i h4 h6;split at hs
   .cases hs
   rename_i hn;simp only[aq]at hs;subst hs;refine⟨⟨h1,λ_=>mem _ _ (eN.1 λh=>hn (.inr h)),λh=>by omega⟩,DB r (i+1) _ (sub _) h⟩
  split at hs
  .cases hs
  rename_i hn;simp only[aq]at hs;subst hs;refine⟨⟨h1,λ_=>mem _ _ (eN.1 λh=>hn (.inr (.inl h))),λ_=>mem _ _ (eN.1 λh=>hn (.inr (.inr h)))⟩,DB r (i+1) _ (sub _) h⟩
theorem AU {nm:List UInt8->Bool}{x:List Nd}(h:rT nm x=0):x≠[]/\x.length<=200/\abD 0 x:=by
 unfold rT at h;split at h
 .omega
 refine⟨λe=>by subst e;simp[uB]at h,by omega,DB x 0 [] (λa h=>by cases h) h⟩
end Go.Px
namespace Go.Pp
open Go.Px
abbrev Rg:=Int×Int
abbrev Raw:=Int×(Int×Int)×((Int×Int)×(Int×Int)×Int×Int×Int)×List Nd×Bool
def Ri:List (List UInt8×Int×Int):=[([98,121,116,101],1,0),([119,111,114,100],2,0),([100,119,111,114,100],4,0),([113,119,111,114,100],8,0),([111,119,111,114,100],16,0),([121,119,111,114,100],32,0),([115,104,111,114,116],0,1),([110,101,97,114],0,2),([115,116,114,105,99,116],0,3)]
def pU (t:Tok):Int×Int:=if t.1=1 then kL t.2.2.1 Ri else (0,0)
def ry (t:Tok)(s:List UInt8):Bool:=decide (t.1=1)&&decide (t.2.2.1=s)
def dI (l:List Tok)(a:Int)(s:List UInt8):Bool:=match at? l a with
 |some t=>pY t s
 |none=>false
def CI (t:Tok):Bool := !decide (t.1=4)||(decide (t.2.2.1=[36])||(decide (t.2.2.1=[36,36])||decide (t.2.2.1=[41])))
def tI (op:Int):Bool:=decide (op=53)||(decide (op=54)||decide (68<=op/\op<=83))
def xo (c n:Int):Bool:=decide (c=5/\0<=n/\n<16)
def sizedB (n:Int):Bool:=decide (n=0\/n=1\/n=2\/n=4\/n=8\/n=16\/n=32)
def qC (n:Int):Bool:=decide (n=1\/n=2\/n=4\/n=8)
def xq (c n:Int):Bool:=decide (c=0)&&decide (n=0)
def Mo (c n:Int):Bool:=decide (c=8)&&decide (n=0)
def uc (c n:Int):Bool:=decide (c=5)&&decide (n=4)
def Mp (bc bn ic ix sc d sz:Int):Int :=
 if d < -2147483648\/2147483647<d then 5
 else if sizedB sz=false then 2
 else if xq bc bn=false/\Mo bc bn=false/\xo bc bn=false then 2
 else if xq ic ix=true then (if sc=0 then 0 else 2)
 else if xo ic ix=false\/qC sc=false\/Mo bc bn=true then 2
 else if uc ic ix=true/\(sc≠1\/uc bc bn=true) then 2
 else 0
def qn:List Tok->Int->Int->Option Int
 |[],_,_=>none
 |t::r,a,d=>if pY t [40]=true then qn r (a+1) (d+1) else if pY t [41]=true then qn r (a+1) (if 0<d-1 then d-1 else 0)
  else if d=0/\pY t [93]=true then some a else qn r (a+1) d
def tJ (e:Int):Tok->List Tok->Int->Int->Int
 |_,[],_,_=>e
 |p,t::r,a,d=>if pY t [40]=true then tJ e t r (a+1) (d+1) else if pY t [41]=true then tJ e t r (a+1) (if 0<d-1 then d-1 else 0)
  else if d=0/\(pY t [43]=true\/pY t [45]=true)/\CI p=true then a else tJ e t r (a+1) d
def Xi:Tok:=(0,0,[],0)
def mK (l:List Tok)(a:Int):Option Int:=qn (l.drop a.toNat) a 0
def fQ (l:List Tok)(a e:Int):Int:=tJ e ((at? l (a-1)).getD Xi) ((l.take e.toNat).drop a.toNat) a 0
structure TS where
 bc:Int
 bn:Int
 ic:Int
 ix:Int
 sc:Int
 put:List Tok
abbrev qU:=Bool×Int×Int×TS
def lJ (s:TS)(e f:Int):qU:=(false,e,f,s)
def okO (s:TS):qU:=(true,0,0,s)
section
variable (rp:List UInt8->Int×Int×Bool) (l:List Tok)
def qo (t:Tok):Option Rg:=if t.1=1/\(rp t.2.2.1).2.2=true/\(rp t.2.2.1).1≠8 then some ((rp t.2.2.1).1,(rp t.2.2.1).2.1) else none
def mL (sg:List UInt8)(r:Rg)(a:Int)(s:TS):qU :=
 if sg=[45] then lJ s 2 a else if s.bc=0/\s.bn=0 then okO { s with bc:=r.1,bn:=r.2 }
 else if s.ic=0/\s.ix=0 then okO { s with ic:=r.1,ix:=r.2,sc:=1 } else lJ s 2 a
def jf (sg:List UInt8)(r:Rg)(a num n:Int)(s:TS):qU :=
 if sg=[45]\/¬(s.ic=0/\s.ix=0) then lJ s 2 a
 else if qC n=true then okO { s with ic:=r.1,ix:=r.2,sc:=n } else lJ s 2 num
def Pj (l:List Tok)(a b:Int):List Tok:=(l.drop a.toNat).take (b.toNat-a.toNat)
def rz (sg:List UInt8)(a b:Int)(s:TS):qU :=
 okO { s with put:=(if sg=[45]\/s.put≠[] then s.put++[Gj sg] else s.put)++[Gj [40]]++Pj l a b++[Gj [41]] }
def mX (sg:List UInt8)(a b:Int)(s:TS):qU :=
 if b-a=0 then lJ s 4 a
 else if b-a=1 then match at? l a with
  |some t=>if ry t [114,105,112]=true then mL sg (8,0) a s else match qo rp t with
   |some r=>mL sg r a s
   |none=>rz l sg a b s
  |none=>lJ s 0 0
 else if b-a=3/\dI l (a+1) [42]=true then match at? l a,at? l (a+2) with
  |some t,some u=>match qo rp t,qo rp u with
   |some r,some q=>if u.1=2 then jf sg r a (a+2) u.2.1 s else if t.1=2 then jf sg q a a t.2.1 s else rz l sg a b s
   |some r,none=>if u.1=2 then jf sg r a (a+2) u.2.1 s else rz l sg a b s
   |none,some q=>if t.1=2 then jf sg q a a t.2.1 s else rz l sg a b s
   |none,none=>rz l sg a b s
  |_,_=>lJ s 0 0
 else rz l sg a b s
def oR (e:Int):Nat->List UInt8->Int->TS->Option qU
 |0,_,_,_=>none
 |n+1,sg,a,s=>match mX rp l sg a (fQ l a e) s with
  |(true,_,_,s')=>if fQ l a e=e then some (okO s') else match at? l (fQ l a e) with
   |some t=>oR e n t.2.2.1 (fQ l a e+1) s'
   |none=>none
  |(false,x,f,s')=>some (lJ s' x f)
end
end Go.Pp
