/- Expressions: what reading them comes to, and what they are told as; trees. Expressions: whether one may be, the tokens of one, a text that is told and read again. Expressions: their numbers, their names; plain. Operands and instructions: what reading them comes to. -/
import Derived.Test.YtbeckacfibledaaGreatDoorLya
set_option linter.unusedVariables false
set_option linter.unusedSimpArgs false

namespace Go.Px
abbrev Tok:=Int×Int×List UInt8×Int
abbrev Nd:=Int×Int×List UInt8×Int×Int
def at? {α:Type}(l:List α)(i:Int):Option α :=
 match i with
 |.ofNat n=>l[n]?
 |.negSucc _=>none
def pO (t:Tok)(s:List UInt8):Bool:=decide (t.1=4)&&decide (t.2.2.1=s)
def BM (nm:List UInt8->Bool)(t:Tok):Option Nd :=
 if t.1=2 then some (1,t.2.1,[],0,0)
 else if t.1=1/\nm t.2.2.1=true then some (2,0,t.2.2.1,0,0)
 else if pO t [36]=true then some (3,0,[],0,0)
 else if pO t [36,36]=true then some (4,0,[],0,0)
 else none
def pref (t:Tok):Option Int :=
 if pO t [45]=true then some 5 else if pO t [126]=true then some 6 else if pO t [43]=true then some 0 else none
def ak0:List (List UInt8×Int×Int):=[([42],7,6),([47],8,6),([37],9,6),([43],10,5),([45],11,5),([60,60],12,4),([62,62],13,4),([38],14,3),([94],15,2),([124],16,1)]
def kG (s:List UInt8):List (List UInt8×Int×Int)->Int×Int
 |[]=>(0,0)
 |q::l=>if s=q.1 then q.2 else kG s l
def bin (t:Tok):Int×Int:=if t.1=4 then kG t.2.2.1 ak0 else (0,0)
structure St where
 a:Int
 d:Int
 x:List Nd
 e:Int
 f:Int
abbrev mP:=Option (Bool×St)
def Aq (st:St)(e f:Int):mP:=some (false,{ st with e:=e,f:=f })
def sF (st:St)(n:Nd)(f:Int)(k:St->mP):mP:=if st.x.length=200 then Aq st 3 f else k { st with x:=st.x++[n] }
def sG (st:St)(k:St->mP):mP:=if st.d=50 then Aq st 3 st.a else k { st with d:=st.d+1,a:=st.a+1 }
def OU (r:mP)(k:St->mP):mP :=
 match r with
 |some (true,st)=>k st
 |some (false,st)=>some (false,st)
 |none=>none
section
variable (nm:List UInt8->Bool) (l:List Tok)
def ri (rec:Int->St->mP)(st:St)(k:St->mP):mP :=
 match at? l st.a with
 |none=>Aq st 4 st.a
 |some t=>match BM nm t with
  |some n=>sF { st with a:=st.a+1 } n st.a k
  |none=>match pref t with
   |some op=>sG st λs1=>OU (rec 7 s1) λs2 =>
    if op=0 then k { s2 with d:=s2.d-1 } else sF { s2 with d:=s2.d-1 } (op,0,[],s2.x.length-1,0) st.a k
   |none=>if pO t [40]=true then sG st λs1=>OU (rec 1 s1) λs2=>match at? l s2.a with
     |none=>Aq s2 4 s2.a
     |some c=>if pO c [41]=true then k { s2 with d:=s2.d-1,a:=s2.a+1 } else Aq s2 4 s2.a
    else Aq st 4 st.a
def mo (rec:Int->St->mP)(str:Int):Nat->St->mP
 |0,_=>none
 |n+1,st=>match at? l st.a with
  |none=>some (true,st)
  |some t=>if (bin t).2<str then some (true,st) else
   OU (rec ((bin t).2+1) { st with a:=st.a+1 }) λs2=>sF s2 ((bin t).1,0,[],st.x.length-1,s2.x.length-1) st.a (mo rec str n)
def eM:Nat->Int->St->mP
 |0=>λ_ _=>none
 |k+1=>λstr st=>ri nm l (eM k) st (mo l (eM k) str (l.length+1))
end
inductive T where
 |leaf (n:Nd)
 |un (op:Int) (a:T)
 |bi (op:Int) (a b:T)
def T.size:T->Nat
 |.leaf _=>1
 |.un _ a=>a.size+1
 |.bi _ a b=>a.size+b.size+1
def T.post (b:Nat):T->List Nd
 |.leaf n=>[n]
 |.un op a=>a.post b++[(op,0,[],((b+a.size:Nat):Int)-1,0)]
 |.bi op u v=>u.post b++(v.post (b+u.size)++[(op,0,[],((b+u.size:Nat):Int)-1,((b+u.size+v.size:Nat):Int)-1)])
theorem T.qJ:∀(t:T) (b:Nat),(t.post b).length=t.size
 |.leaf _,_=>rfl
 |.un _ a,b=>by simp[T.post,T.size,a.qJ b]
 |.bi _ u v,b=>by simp[T.post,T.size,u.qJ b,v.qJ (b+u.size)];omega
def Jn (nm:List UInt8->Bool)(n:Nd):Prop :=
 (∃k,n=(1,k,[],0,0))\/(∃s,n=(2,0,s,0,0)/\nm s=true)\/n=(3,0,[],0,0)\/n=(4,0,[],0,0)
def T.ok (nm:List UInt8->Bool):T->Prop
 |.leaf n=>Jn nm n
 |.un op a=>(op=5\/op=6)/\a.ok nm
 |.bi op u v=>7<=op/\op<=16/\u.ok nm/\v.ok nm
def F7 (s:List UInt8):Tok:=(4,0,s,0)
theorem Jo {α:Type}(p r:List α)(c:α):at? (p++c::r) ((p.length:Nat):Int)=some c:=by
 show (p++c::r)[p.length]? = some c;simp
variable {nm:List UInt8->Bool}
theorem jj {α:Type}{l:List α}{i:Int}{c:α}(h:at? l i=some c):0<=i/\i<(l.length:Int):=by
 unfold at? at h;split at h
 .rename_i n;have:=(bw.1 h).1;simp;omega
 cases h
theorem aan {t:Tok}{n:Nd}(h:BM nm t=some n):Jn nm n:=by
 unfold BM at h;split at h
 .cases h;exact .inl ⟨_,rfl⟩
 split at h
 .rename_i h2;cases h;exact .inr (.inl ⟨_,rfl,h2.2⟩)
 split at h
 .cases h;exact .inr (.inr (.inl rfl))
 split at h
 .cases h;exact .inr (.inr (.inr rfl))
 cases h
theorem aao {t:Tok}{op:Int}(h:pref t=some op):op=0\/op=5\/op=6:=by
 unfold pref at h;split at h
 .cases h;omega
 split at h
 .cases h;omega
 split at h
 .cases h;omega
 cases h
theorem Wz {t:Tok}(h:1<=(bin t).2):7<=(bin t).1/\(bin t).1<=16/\(bin t).2<=6:=by
 have key:∀(s:List UInt8) (m:List (List UInt8×Int×Int)),(∀q∈m,7<=q.2.1/\q.2.1<=16/\q.2.2<=6)->1<=(kG s m).2->7<=(kG s m).1/\(kG s m).1<=16/\(kG s m).2<=6:=by
  intro s m;induction m with
  |nil=>intro _ h;exact absurd h (by show ¬(1:Int)<=0;decide)
  |cons q m ih =>
   intro hm h;unfold kG at h ⊢;split
   .exact hm q (cD ..)
   rename_i hq;rw[aa hq]at h;exact ih (λx hx=>hm x (bD _ hx)) h
 unfold bin at h ⊢;split
 .rename_i ht;rw[ag ht]at h;exact key _ _ (by decide) h
 rename_i ht;rw[aa ht]at h;exact absurd h (by show ¬(1:Int)<=0;decide)
def Grown (nm:List UInt8->Bool)(l:List Tok)(st st':St):Prop :=
 ∃t:T,t.ok nm/\st'.x=st.x++t.post st.x.length/\st.a<st'.a/\st'.a<=(l.length:Int)/\st'.d=st.d/\st'.e=st.e/\st'.f=st.f/\st'.x.length<=200
theorem go_inv {r:mP}{k:St->mP}{st':St}(h:OU r k=some (true,st')):∃s,r=some (true,s)/\k s=some (true,st'):=by
 unfold OU at h;split at h
 .exact ⟨_,rfl,h⟩
 .cases h
 cases h
theorem ER {st:St}{n:Nd}{f:Int}{k:St->mP}{st':St}(h:sF st n f k=some (true,st')):st.x.length≠200/\k { st with x:=st.x++[n] }=some (true,st'):=by
 unfold sF at h;split at h
 .cases h
 rename_i h1;exact⟨h1,h⟩
theorem L7 {st:St}{k:St->mP}{st':St}(h:sG st k=some (true,st')):k { st with d:=st.d+1,a:=st.a+1 }=some (true,st'):=by
 unfold sG at h;split at h
 .cases h
 exact h
theorem ES {l:List Tok}{rec:Int->St->mP}(hrec:∀s st st',st.x.length<=200->st.a<=(l.length:Int)->rec s st=some (true,st')->Grown nm l st st'){str:Int}(h1:1<=str):∀(n:Nat) (st0 st st':St),Grown nm l st0 st->mo l rec str n st=some (true,st')->Grown nm l st0 st'
 |0,_,_,_,_,h=>by cases h
 |n+1,st0,st,st',hg,h=>by
  unfold mo at h;split at h
  .cases h;exact hg
  rename_i tok jx;split at h
  .cases h;exact hg
  rename_i ass;obtain⟨s2,h2,h3⟩:=go_inv h;obtain⟨h4,h5⟩:=ER h3;obtain⟨t,k1,k2,k3,k4,k5,k6,k7,k8⟩:=hg;have hlt:=jj jx;obtain⟨u,m1,m2,m3,m4,m5,m6,m7,m8⟩:=hrec _ { st with a:=st.a+1 } _ k8 (by show st.a+1<=_;omega) h2;have hb:=Wz (t:=tok) (by omega);refine ES hrec h1 n st0 { s2 with x:=s2.x++[((bin tok).1,0,[],(st.x.length:Int)-1,(s2.x.length:Int)-1)] } st' ?_ h5;refine⟨.bi (bin tok).1 t u,⟨hb.1,hb.2.1,k1,m1⟩,?_,by show st0.a<s2.a;have:st.a+1<s2.a:=m3;omega,m4,by show s2.d=_;rw[m5];exact k5,by show s2.e=_;rw[m6];exact k6,by show s2.f=_;rw[m7];exact k7,?_⟩
  .show s2.x++[_]=_;have e2:s2.x=st.x++u.post st.x.length:=m2;have el:st.x.length=st0.x.length+t.size:=by rw[k2,aA,T.qJ]
   have el2:s2.x.length=st0.x.length+t.size+u.size:=by rw[e2,aA,T.qJ,el]
   rw[el2,e2,el,k2];simp only[T.post,bJ]
  show (s2.x++[_]).length<=200;have:s2.x.length<=200:=m8;simp;omega
theorem lD (l:List Tok):∀(k:Nat) (str:Int) (st st':St),1<=str->st.x.length<=200->st.a<=(l.length:Int)->eM nm l k str st=some (true,st')->Grown nm l st st'
 |0,_,_,_,_,_,_,h=>by cases h
 |k+1,str,st,st',hs,hx,ha,h=>by
  have h:ri nm l (eM nm l k) st (mo l (eM nm l k) str (l.length+1))=some (true,st'):=h;have QX:∀s1,Grown nm l st s1->mo l (eM nm l k) str (l.length+1) s1=some (true,st')->Grown nm l st st':=λs1 hg hm =>
   ES (rec:=λs st=>if 1<=s then eM nm l k s st else none) (λs a b hxa haa hr=>by
    split at hr
    .rename_i h1;exact lD l k s a b h1 hxa haa hr
    cases hr) hs (l.length+1) st s1 st' hg (by
    have:∀n s,mo l (λs st=>if 1<=s then eM nm l k s st else none) str n s=mo l (eM nm l k) str n s:=by
     intro n;induction n with
     |zero=>intro s;rfl
     |succ n ih =>
      intro s;unfold mo;split
      .rfl
      split
      .rfl
      rename_i tok _ hlt;rw[ag (by omega)];congr 1
      funext s2
      rw[show mo l (λs st=>if 1<=s then eM nm l k s st else none) str n=mo l (eM nm l k) str n from funext ih]
    rw[this];exact hm)
  unfold ri at h;split at h
  .cases h
  rename_i tok jx;have hlt:=jj jx;split at h
  .rename_i n hn;obtain⟨h4,h5⟩:=ER h;refine QX { st with a:=st.a+1,x:=st.x++[n] } ⟨.leaf n,aan hn,rfl,by show st.a<st.a+1;omega,by show st.a+1<=_;omega,rfl,rfl,rfl,?_⟩ h5;show (st.x++[n]).length<=200;have:st.x.length≠200:=h4;simp;omega
  split at h
  .rename_i op hp;have h:=L7 h;obtain⟨s2,h2,h3⟩:=go_inv h;obtain⟨u,m1,m2,m3,m4,m5,m6,m7,m8⟩:=lD l k 7 { st with d:=st.d+1,a:=st.a+1 } s2 (by decide) hx (by show st.a+1<=_;omega) h2;have m3:st.a+1<s2.a:=m3;have m5:s2.d=st.d+1:=m5;split at h3
   .refine QX { s2 with d:=s2.d-1 } ⟨u,m1,m2,by show st.a<s2.a;omega,m4,by show s2.d-1=st.d;omega,m6,m7,m8⟩ h3
   rename_i hop;obtain⟨h4,h5⟩:=ER h3;have h4:s2.x.length≠200:=h4;refine QX { s2 with d:=s2.d-1,x:=s2.x++[(op,0,[],(s2.x.length:Int)-1,0)] } ⟨.un op u,⟨by have:=aao hp;omega,m1⟩,?_,by show st.a<s2.a;omega,m4,by show s2.d-1=st.d;omega,m6,m7,?_⟩ h5
   .show s2.x++[_]=_;have e2:s2.x=st.x++u.post st.x.length:=m2;rw[e2];simp[T.post,T.qJ]
   show (s2.x++[_]).length<=200;have:s2.x.length<=200:=m8;simp;omega
  split at h
  .have h:=L7 h;obtain⟨s2,h2,h3⟩:=go_inv h;obtain⟨u,m1,m2,m3,m4,m5,m6,m7,m8⟩:=lD l k 1 { st with d:=st.d+1,a:=st.a+1 } s2 (by decide) hx (by show st.a+1<=_;omega) h2;have m3:st.a+1<s2.a:=m3;have m5:s2.d=st.d+1:=m5;split at h3
   .cases h3
   rename_i c hc;have afM:=jj hc;split at h3
   .exact QX { s2 with d:=s2.d-1,a:=s2.a+1 } ⟨u,m1,m2,by show st.a<s2.a+1;omega,by show s2.a+1<=_;omega,by show s2.d-1=st.d;omega,m6,m7,m8⟩ h3
   cases h3
  cases h
theorem go_some {r:mP}{k:St->mP}(h:∃x,r=some x)(hk:∀s,r=some (true,s)->∃y,k s=some y):∃y,OU r k=some y:=by
 obtain⟨⟨b,s⟩,rfl⟩:=h;cases b with
 |true=>exact hk s rfl
 |false=>exact⟨_,rfl⟩
theorem BN {st:St}{n:Nd}{f:Int}{k:St->mP} (hk:st.x.length≠200->∃y,k { st with x:=st.x++[n] }=some y):∃y,sF st n f k=some y:=by
 unfold sF;split
 .exact ⟨_,rfl⟩
 rename_i h;exact hk h
theorem Hh {st:St}{k:St->mP} (hk:∃y,k { st with d:=st.d+1,a:=st.a+1 }=some y):∃y,sG st k=some y:=by
 unfold sG;split
 .exact ⟨_,rfl⟩
 exact hk
theorem sH (l:List Tok):∀(k:Nat) (str:Int) (st:St),1<=str->st.x.length<=200->0<=st.a->st.a<=(l.length:Int)->(l.length:Int)-st.a<k->∃r,eM nm l k str st=some r
 |0,_,_,_,_,_,_,h=>by omega
 |k+1,str,st,hs,hx,h0,ha,hk=>by
  have more:∀(n:Nat) (s:St),s.x.length<=200->st.a<s.a->s.a<=(l.length:Int)->(l.length:Int)-s.a<n->∃r,mo l (eM nm l k) str n s=some r:=by
   intro n;induction n with
   |zero=>intro s _ _ _ h;omega
   |succ n ih =>
    intro s hsx hsa hsl hn;unfold mo;split
    .exact ⟨_,rfl⟩
    rename_i tok jx;have hlt:=jj jx;split
    .exact ⟨_,rfl⟩
    refine go_some (sH l k _ { s with a:=s.a+1 } (by omega) hsx (by show 0<=s.a+1;omega) (by show s.a+1<=_;omega) (by show _-(s.a+1)<_;omega)) λs2 h2=>BN λhne=>?_
    obtain⟨u,m1,m2,m3,m4,m5,m6,m7,m8⟩:=lD l k _ { s with a:=s.a+1 } s2 (by omega) hsx (by show s.a+1<=_;omega) h2;have m3:s.a+1<s2.a:=m3;exact ih _ (by show (s2.x++[_]).length<=200;simp;omega) (by show st.a<s2.a;omega) m4 (by show _-s2.a<_;omega)
  show ∃r,ri nm l (eM nm l k) st (mo l (eM nm l k) str (l.length+1))=some r;unfold ri;split
  .exact ⟨_,rfl⟩
  rename_i tok jx;have hlt:=jj jx;split
  .exact BN λhne=>more _ _ (by show (st.x++[_]).length<=200;have:st.x.length≠200:=hne;simp;omega) (by show st.a<st.a+1;omega) (by show st.a+1<=_;omega) (by show _-(st.a+1)<_;omega)
  split
  .refine Hh (go_some (sH l k 7 { st with d:=st.d+1,a:=st.a+1 } (by decide) hx (by show 0<=st.a+1;omega) (by show st.a+1<=_;omega) (by show _-(st.a+1)<_;omega)) λs2 h2=>?_);obtain⟨u,m1,m2,m3,m4,m5,m6,m7,m8⟩:=lD l k _ { st with d:=st.d+1,a:=st.a+1 } s2 (by decide) hx (by show st.a+1<=_;omega) h2;have m3:st.a+1<s2.a:=m3;split
   .exact more _ _ m8 (by show st.a<s2.a;omega) m4 (by show _-s2.a<_;omega)
   exact BN λhne=>more _ _ (by show (s2.x++[_]).length<=200;have:s2.x.length≠200:=hne;simp;omega) (by show st.a<s2.a;omega) m4 (by show _-s2.a<_;omega)
  split
  .refine Hh (go_some (sH l k 1 { st with d:=st.d+1,a:=st.a+1 } (by decide) hx (by show 0<=st.a+1;omega) (by show st.a+1<=_;omega) (by show _-(st.a+1)<_;omega)) λs2 h2=>?_);obtain⟨u,m1,m2,m3,m4,m5,m6,m7,m8⟩:=lD l k _ { st with d:=st.d+1,a:=st.a+1 } s2 (by decide) hx (by show st.a+1<=_;omega) h2;have m3:st.a+1<s2.a:=m3;split
   .exact ⟨_,rfl⟩
   rename_i c hc;have afM:=jj hc;split
   .exact more _ _ m8 (by show st.a<s2.a+1;omega) (by show s2.a+1<=_;omega) (by show _-(s2.a+1)<_;omega)
   exact⟨_,rfl⟩
  exact⟨_,rfl⟩
end Go.Px
namespace Go.Px
variable {nm:List UInt8->Bool}
def fL (nm:List UInt8->Bool)(n:Nd):Bool :=
 decide (1<=n.1)&&decide (n.1<=16)&&(decide (n.1=1)||decide (n.2.1=0))&&(if n.1=2 then nm n.2.2.1 else decide (n.2.2.1=[]))&&(!decide (n.1<=4)||decide (n.2.2.2.1=0))&&(decide (6<n.1)||decide (n.2.2.2.2=0))
def EV (i:Int)(n:Nd)(o:List Int):Option (List Int) :=
 if n.1<=4 then some (o++[i])
 else if n.1<=6 then (if o.length<1\/o[o.length-1]? ≠ some n.2.2.2.1 then none else some (o.take (o.length-1)++[i]))
 else (if o.length<2\/o[o.length-2]? ≠ some n.2.2.2.1\/o[o.length-1]? ≠ some n.2.2.2.2 then none else some (o.take (o.length-2)++[i]))
def uo (nm:List UInt8->Bool):Nat->List Nd->List Int->Int
 |_,[],o=>if o.length=1 then 0 else 2
 |i,n::r,o=>if fL nm n=true then (match EV i n o with
  |some o'=>uo nm (i+1) r o'
  |none=>2) else 2
def rJ (nm:List UInt8->Bool)(x:List Nd):Int:=if 200<x.length then 3 else uo nm 0 x []
theorem adl {n:Nd}(h:fL nm n=true)(h4:n.1<=4):Jn nm n:=by
 obtain⟨op,k,s,L,R⟩:=n;simp only[fL,ak,cI,aV,aS,bH]at h;simp only at h4;obtain⟨⟨⟨⟨⟨h1,h2⟩,h3⟩,h5⟩,h6⟩,h7⟩:=h;have hL:L=0:=by omega
 have hR:R=0:=by omega
 subst hL;subst hR;obtain rfl|rfl|rfl|rfl:op=1\/op=2\/op=3\/op=4:=by omega
 .rw[aa (by decide)]at h5;have:s=[]:=ef h5;subst this;exact .inl ⟨k,rfl⟩
 .have:k=0:=by omega
  subst this;rw[ag rfl]at h5;exact .inr (.inl ⟨s,rfl,h5⟩)
 .have:k=0:=by omega
  subst this;rw[aa (by decide)]at h5;have:s=[]:=ef h5;subst this;exact .inr (.inr (.inl rfl))
 have:k=0:=by omega
 subst this;rw[aa (by decide)]at h5;have:s=[]:=ef h5;subst this;exact .inr (.inr (.inr rfl))
theorem WM (o:List Int)(a:Int):(o++[a])[(o++[a]).length-1]? = some a:=by simp
theorem S7 (o:List Int)(a:Int):(o++[a]).take ((o++[a]).length-1)=o:=by simp
theorem L9 {n:Nd}(h:Jn nm n):fL nm n=true/\n.1<=4:=by
 rcases h with⟨k,rfl⟩|⟨s,rfl,hs⟩|rfl|rfl
 .exact ⟨by simp[fL],by show (1:Int)<=4;decide⟩
 .exact ⟨by simp[fL,hs],by show (2:Int)<=4;decide⟩
 .exact ⟨by simp[fL],by show (3:Int)<=4;decide⟩
 exact⟨by simp[fL],by show (4:Int)<=4;decide⟩
theorem Ar:∀(t:T),t.ok nm->∀(i:Nat) (r:List Nd) (o:List Int),uo nm i (t.post i++r) o=uo nm (i+t.size) r (o++[((i+t.size:Nat):Int)-1])
 |.leaf n,h,i,r,o=>by
  obtain⟨h1,h2⟩:=L9 h;show uo nm i (n::r) o=_;rw[uo,ag h1];unfold EV;rw[ag h2];simp only[T.size];congr 3;omega
 |.un op a,⟨hop,ha⟩,i,r,o=>by
  have e:(T.un op a).post i++r=a.post i++((op,0,[],((i+a.size:Nat):Int)-1,0)::r):=by simp[T.post]
  rw[e,Ar a ha,uo,ag (by rcases hop with rfl|rfl<;>simp[fL])];unfold EV;simp only;rw[aa (by omega),ag (by omega),aa (by rw[WM];simp),S7];show uo nm (i+a.size+1) r (o++[((i+a.size:Nat):Int)])=uo nm (i+a.size+1) r (o++[((i+a.size+1:Nat):Int)-1]);rw[show ((i+a.size+1:Nat):Int)-1=((i+a.size:Nat):Int) by omega]
 |.bi op u v,⟨h7,h16,hu,hv⟩,i,r,o=>by
  have e:(T.bi op u v).post i++r=u.post i++(v.post (i+u.size)++((op,0,[],((i+u.size:Nat):Int)-1,((i+u.size+v.size:Nat):Int)-1)::r)):=by simp[T.post]
  rw[e,Ar u hu,Ar v hv,uo,ag (by
   simp only[fL,ak,cI,aV,aS,bH];rw[aa (by omega)];refine⟨⟨⟨⟨⟨by omega,by omega⟩,.inr trivial⟩,by simp⟩,.inl (by omega)⟩,.inl (by omega)⟩)]
  unfold EV;simp only;rw[aa (by omega),aa (by omega),aa (by simp)];have et:(o++[((i+u.size:Nat):Int)-1]++[((i+u.size+v.size:Nat):Int)-1]).take ((o++[((i+u.size:Nat):Int)-1]++[((i+u.size+v.size:Nat):Int)-1]).length-2)=o:=by simp
  rw[et];show uo nm (i+u.size+v.size+1) r (o++[((i+u.size+v.size:Nat):Int)])=uo nm (i+(u.size+v.size+1)) r (o++[((i+(u.size+v.size+1):Nat):Int)-1]);rw[show i+(u.size+v.size+1)=i+u.size+v.size+1 by omega,show ((i+u.size+v.size+1:Nat):Int)-1=((i+u.size+v.size:Nat):Int) by omega]
theorem S8 {t:T}(h:t.ok nm)(hs:t.size<=200):rJ nm (t.post 0)=0:=by
 unfold rJ;rw[T.qJ,aa (by omega)];have:=Ar t h 0 [] [];rw[fA]at this;rw[this];rfl
def qd (nm:List UInt8->Bool)(l:List Tok)(a:Int):Option (List Nd×Int×Int×Int) :=
 if a<0\/(l.length:Int)<a then some ([],0,2,0) else
 match eM nm l (l.length+1) 1 ⟨a,0,[],0,0⟩ with
 |some (true,st)=>some (st.x,st.a,0,0)
 |some (false,st)=>some ([],0,st.e,st.f)
 |none=>none
theorem vr (l:List Tok)(a:Int):∃r,qd nm l a=some r:=by
 unfold qd;split
 .exact ⟨_,rfl⟩
 rename_i h;obtain⟨⟨b,st⟩,hr⟩:=sH (nm:=nm) l (l.length+1) 1 ⟨a,0,[],0,0⟩ (by decide) (by simp) (by show 0<=a;omega) (by show a<=_;omega) (by show _-a<_;omega);rw[hr];cases b<;>exact⟨_,rfl⟩
def qT (r:mP):Prop:=∀st,r=some (false,st)->st.e≠0
theorem BQ (st:St){e:Int}(f:Int)(h:e≠0):qT (Aq st e f):=λs hs=>by cases hs;exact h
theorem go_f {r:mP}{k:St->mP}(h:qT r)(hk:∀s,qT (k s)):qT (OU r k):=λst hs=>by
 unfold OU at hs;split at hs
 .exact hk _ st hs
 .cases hs;exact h _ rfl
 cases hs
theorem OX {st:St}{n:Nd}{f:Int}{k:St->mP}(hk:∀s,qT (k s)):qT (sF st n f k):=by
 unfold sF;split
 .exact BQ _ _ (by decide)
 exact hk _
theorem WN {st:St}{k:St->mP}(hk:∀s,qT (k s)):qT (sG st k):=by
 unfold sG;split
 .exact BQ _ _ (by decide)
 exact hk _
theorem WO {l:List Tok}{rec:Int->St->mP}(hr:∀s st,qT (rec s st))(str:Int):∀(n:Nat) (st:St),qT (mo l rec str n st)
 |0,st=>λ_ h=>by cases h
 |n+1,st=>by
  unfold mo;split
  .intro _ h;cases h
  split
  .intro _ h;cases h
  exact go_f (hr _ _) λs=>OX λs=>WO hr str n s
theorem Dl (l:List Tok):∀(k:Nat) (str:Int) (st:St),qT (eM nm l k str st)
 |0,_,_=>λ_ h=>by cases h
 |k+1,str,st=>by
  have ih:=Dl l k;show qT (ri nm l (eM nm l k) st (mo l (eM nm l k) str (l.length+1)));have hm:=WO (l:=l) ih str (l.length+1);unfold ri;split
  .exact BQ _ _ (by decide)
  split
  .exact OX hm
  split
  .refine WN λs=>go_f (ih _ _) λs=>?_
   split
   .exact hm _
   exact OX hm
  split
  .refine WN λs=>go_f (ih _ _) λs=>?_
   split
   .exact BQ _ _ (by decide)
   split
   .exact hm _
   exact BQ _ _ (by decide)
  exact BQ _ _ (by decide)
theorem Ma {l:List Tok}{a:Int}{y:List Nd}{e f g:Int}(h:qd nm l a=some (y,e,f,g)):(f≠0->y=[]/\e=0)/\(f=0->rJ nm y=0/\a<e/\e<=(l.length:Int)):=by
 unfold qd at h;split at h
 .cases h;exact⟨λ_=>⟨rfl,rfl⟩,λh=>absurd h (by decide)⟩
 rename_i ha;split at h
 .rename_i st hc;cases h;refine⟨λh=>absurd rfl h,λ_=>?_⟩;obtain⟨t,h1,h2,h3,h4,h5,_,_,h8⟩:=lD l _ 1 ⟨a,0,[],0,0⟩ st (by decide) (by simp) (by show a<=_;omega) hc;have h2:st.x=t.post 0:=by rw[h2];rfl
  refine⟨?_,h3,h4⟩;rw[h2]at h8 ⊢;exact S8 h1 (by rw[T.qJ]at h8;exact h8)
 .rename_i st hc;cases h;exact⟨λ_=>⟨rfl,rfl⟩,λh=>absurd h (Dl l _ _ _ st hc)⟩
 cases h
end Go.Px
namespace Go.Px
abbrev Sym:=List UInt8×Int×Bool
def JT:List Sym->List UInt8->Option Sym
 |[],_=>none
 |q::l,s=>if q.1=s then some q else JT l s
def CA (l:List Sym)(s:List UInt8):Option Sym:=JT l.reverse s
def Fu (v:List Int)(i:Int):Int:=(at? v i).getD 0
section
variable (neg inv:Int->Int) (bin:Int->Int->Int->Int×Bool) (l:List Sym) (here start:Int)
def opE (v:List Int)(nd:Nd):Int×Int×Bool :=
 if nd.1=1 then (0,nd.2.1,false)
 else if nd.1=2 then (match CA l nd.2.2.1 with
  |some q=>(0,q.2.1,q.2.2)
  |none=>(6,0,false))
 else if nd.1=3 then (0,here,true)
 else if nd.1=4 then (0,start,true)
 else if nd.1=5 then (0,neg (Fu v nd.2.2.2.1),false)
 else if nd.1=6 then (0,inv (Fu v nd.2.2.2.1),false)
 else if (bin nd.1 (Fu v nd.2.2.2.1) (Fu v nd.2.2.2.2)).2=true then (0,(bin nd.1 (Fu v nd.2.2.2.1) (Fu v nd.2.2.2.2)).1,false)
 else (5,0,false)
def evL:List Nd->Nat->List Int->Bool->Int×Bool×Int
 |[],i,v,p=>(Fu v ((i:Int)-1),p,0)
 |nd::r,i,v,p =>
  if (opE neg inv bin l here start v nd).1=0 then evL r (i+1) (v.set i (opE neg inv bin l here start v nd).2.1) (p||(opE neg inv bin l here start v nd).2.2)
  else (0,false,(opE neg inv bin l here start v nd).1)
end
section
variable {neg inv:Int->Int} {bin:Int->Int->Int->Int×Bool}
end
def vu:List Nd->List (List UInt8)->List (List UInt8)
 |[],out=>out
 |nd::r,out=>if nd.1=2/\nd.2.2.1 ∉ out then vu r (out++[nd.2.2.1]) else vu r out
theorem JU:∀(x:List Nd) (out:List (List UInt8)) (s:List UInt8),s∈vu x out↔s∈out\/∃nd∈x,nd.1=2/\nd.2.2.1=s
 |[],out,s=>by simp[vu]
 |nd::r,out,s=>by
  unfold vu;split
  .rename_i h;rw[JU r];simp only[cJ,bx,kC,or_false];constructor
   .rintro ((h1|h1)|⟨n,h1,h2⟩)
    .exact .inl h1
    .exact .inr ⟨nd,.inl rfl,h.1,h1.symm⟩
    exact .inr ⟨n,.inr h1,h2⟩
   rintro (h1|⟨n,rfl|h1,h2,h3⟩)
   .exact .inl (.inl h1)
   .exact .inl (.inr h3.symm)
   exact .inr ⟨n,h1,h2,h3⟩
  rename_i h;rw[JU r];constructor
  .rintro (h1|⟨n,h1,h2⟩)
   .exact .inl h1
   exact .inr ⟨n,by simp[h1],h2⟩
  rintro (h1|⟨n,h1,h2,h3⟩)
  .exact .inl h1
  rcases bx.1 h1 with rfl|h1
  .left
   by_cases hm:n.2.2.1∈out
   .rw[<-h3];exact hm
   exact absurd ⟨h2,hm⟩ h
  exact .inr ⟨n,h1,h2,h3⟩
def aa7:Nat->List Nd->Prop
 |_,[]=>True
 |i,nd::r=>(1<=nd.1/\(4<nd.1->0<=nd.2.2.2.1/\nd.2.2.2.1<(i:Int))/\(6<nd.1->0<=nd.2.2.2.2/\nd.2.2.2.2<(i:Int)))/\aa7 (i+1) r
theorem Dp {nm:List UInt8->Bool}:∀(x:List Nd) (i:Nat) (o:List Int),(∀a∈o,0<=a/\a<(i:Int))->uo nm i x o=0->aa7 i x
 |[],_,_,_,_=>trivial
 |nd::r,i,o,ho,h=>by
  unfold uo at h;split at h;case isFalse=>omega
  rename_i hf;split at h;case h_2=>omega
  rename_i o' hs;have h1:1<=nd.1:=by
   unfold fL at hf;simp only[ak,aV]at hf;exact hf.1.1.1.1.1
  have sub:∀(n:Nat) (a:Int),a∈o.take n++[(i:Int)]->0<=a/\a<((i+1:Nat):Int):=λn a ha=>by
   rcases cJ.1 ha with ha|ha
   .have:=ho a (List.mem_of_mem_take ha);omega
   have:a=i:=by simpa using ha
   omega
  have mem:∀(j:Nat) (z:Int),o[j]? = some z->0<=z/\z<(i:Int):=λj z hz=>ho z (bh hz)
  unfold EV at hs;split at hs
  .rename_i h4;refine⟨⟨h1,λh=>by omega,λh=>by omega⟩,Dp r (i+1) o' ?_ h⟩;simp only[aq]at hs;subst hs;intro a ha;rcases cJ.1 ha with ha|ha
   .have:=ho a ha;omega
   have:a=i:=by simpa using ha
   omega
  split at hs
  .rename_i h4 h6;split at hs
   .cases hs
   rename_i hn;simp only[aq]at hs;subst hs;refine⟨⟨h1,λ_=>mem _ _ (eN.1 λh=>hn (.inr h)),λh=>by omega⟩,Dp r (i+1) _ (sub _) h⟩
  split at hs
  .cases hs
  rename_i hn;simp only[aq]at hs;subst hs;refine⟨⟨h1,λ_=>mem _ _ (eN.1 λh=>hn (.inr (.inl h))),λ_=>mem _ _ (eN.1 λh=>hn (.inr (.inr h)))⟩,Dp r (i+1) _ (sub _) h⟩
theorem AE {nm:List UInt8->Bool}{x:List Nd}(h:rJ nm x=0):x≠[]/\x.length<=200/\aa7 0 x:=by
 unfold rJ at h;split at h
 .omega
 refine⟨λe=>by subst e;simp[uo]at h,by omega,Dp x 0 [] (λa h=>by cases h) h⟩
end Go.Px
namespace Go.Pp
open Go.Px
abbrev Rg:=Int×Int
abbrev Raw:=Int×(Int×Int)×((Int×Int)×(Int×Int)×Int×Int×Int)×List Nd×Bool
def Q0:List (List UInt8×Int×Int):=[([98,121,116,101],1,0),([119,111,114,100],2,0),([100,119,111,114,100],4,0),([113,119,111,114,100],8,0),([111,119,111,114,100],16,0),([121,119,111,114,100],32,0),([115,104,111,114,116],0,1),([110,101,97,114],0,2),([115,116,114,105,99,116],0,3)]
def pJ (t:Tok):Int×Int:=if t.1=1 then kG t.2.2.1 Q0 else (0,0)
def qU (t:Tok)(s:List UInt8):Bool:=decide (t.1=1)&&decide (t.2.2.1=s)
def dI (l:List Tok)(a:Int)(s:List UInt8):Bool:=match at? l a with
 |some t=>pO t s
 |none=>false
def Cu (t:Tok):Bool := !decide (t.1=4)||(decide (t.2.2.1=[36])||(decide (t.2.2.1=[36,36])||decide (t.2.2.1=[41])))
def tv (op:Int):Bool:=decide (op=53)||(decide (op=54)||decide (68<=op/\op<=83))
def xb (c n:Int):Bool:=decide (c=5/\0<=n/\n<16)
def sizedB (n:Int):Bool:=decide (n=0\/n=1\/n=2\/n=4\/n=8\/n=16\/n=32)
def qs (n:Int):Bool:=decide (n=1\/n=2\/n=4\/n=8)
def xd (c n:Int):Bool:=decide (c=0)&&decide (n=0)
def Mb (c n:Int):Bool:=decide (c=8)&&decide (n=0)
def tP (c n:Int):Bool:=decide (c=5)&&decide (n=4)
def Mc (bc bn ic ix sc d sz:Int):Int :=
 if d < -2147483648\/2147483647<d then 5
 else if sizedB sz=false then 2
 else if xd bc bn=false/\Mb bc bn=false/\xb bc bn=false then 2
 else if xd ic ix=true then (if sc=0 then 0 else 2)
 else if xb ic ix=false\/qs sc=false\/Mb bc bn=true then 2
 else if tP ic ix=true/\(sc≠1\/tP bc bn=true) then 2
 else 0
def qe:List Tok->Int->Int->Option Int
 |[],_,_=>none
 |t::r,a,d=>if pO t [40]=true then qe r (a+1) (d+1) else if pO t [41]=true then qe r (a+1) (if 0<d-1 then d-1 else 0)
  else if d=0/\pO t [93]=true then some a else qe r (a+1) d
def tw (e:Int):Tok->List Tok->Int->Int->Int
 |_,[],_,_=>e
 |p,t::r,a,d=>if pO t [40]=true then tw e t r (a+1) (d+1) else if pO t [41]=true then tw e t r (a+1) (if 0<d-1 then d-1 else 0)
  else if d=0/\(pO t [43]=true\/pO t [45]=true)/\Cu p=true then a else tw e t r (a+1) d
def WR:Tok:=(0,0,[],0)
def mG (l:List Tok)(a:Int):Option Int:=qe (l.drop a.toNat) a 0
def fN (l:List Tok)(a e:Int):Int:=tw e ((at? l (a-1)).getD WR) ((l.take e.toNat).drop a.toNat) a 0
structure TS where
 bc:Int
 bn:Int
 ic:Int
 ix:Int
 sc:Int
 put:List Tok
abbrev qK:=Bool×Int×Int×TS
def lF (s:TS)(e f:Int):qK:=(false,e,f,s)
def okO (s:TS):qK:=(true,0,0,s)
section
variable (rp:List UInt8->Int×Int×Bool) (l:List Tok)
def qf (t:Tok):Option Rg:=if t.1=1/\(rp t.2.2.1).2.2=true/\(rp t.2.2.1).1≠8 then some ((rp t.2.2.1).1,(rp t.2.2.1).2.1) else none
def mH (sg:List UInt8)(r:Rg)(a:Int)(s:TS):qK :=
 if sg=[45] then lF s 2 a else if s.bc=0/\s.bn=0 then okO { s with bc:=r.1,bn:=r.2 }
 else if s.ic=0/\s.ix=0 then okO { s with ic:=r.1,ix:=r.2,sc:=1 } else lF s 2 a
def iZ (sg:List UInt8)(r:Rg)(a num n:Int)(s:TS):qK :=
 if sg=[45]\/¬(s.ic=0/\s.ix=0) then lF s 2 a
 else if qs n=true then okO { s with ic:=r.1,ix:=r.2,sc:=n } else lF s 2 num
def OY (l:List Tok)(a b:Int):List Tok:=(l.drop a.toNat).take (b.toNat-a.toNat)
def qV (sg:List UInt8)(a b:Int)(s:TS):qK :=
 okO { s with put:=(if sg=[45]\/s.put≠[] then s.put++[F7 sg] else s.put)++[F7 [40]]++OY l a b++[F7 [41]] }
def mQ (sg:List UInt8)(a b:Int)(s:TS):qK :=
 if b-a=0 then lF s 4 a
 else if b-a=1 then match at? l a with
  |some t=>if qU t [114,105,112]=true then mH sg (8,0) a s else match qf rp t with
   |some r=>mH sg r a s
   |none=>qV l sg a b s
  |none=>lF s 0 0
 else if b-a=3/\dI l (a+1) [42]=true then match at? l a,at? l (a+2) with
  |some t,some u=>match qf rp t,qf rp u with
   |some r,some q=>if u.1=2 then iZ sg r a (a+2) u.2.1 s else if t.1=2 then iZ sg q a a t.2.1 s else qV l sg a b s
   |some r,none=>if u.1=2 then iZ sg r a (a+2) u.2.1 s else qV l sg a b s
   |none,some q=>if t.1=2 then iZ sg q a a t.2.1 s else qV l sg a b s
   |none,none=>qV l sg a b s
  |_,_=>lF s 0 0
 else qV l sg a b s
def oL (e:Int):Nat->List UInt8->Int->TS->Option qK
 |0,_,_,_=>none
 |n+1,sg,a,s=>match mQ rp l sg a (fN l a e) s with
  |(true,_,_,s')=>if fN l a e=e then some (okO s') else match at? l (fN l a e) with
   |some t=>oL e n t.2.2.1 (fN l a e+1) s'
   |none=>none
  |(false,x,f,s')=>some (lF s' x f)
end
end Go.Pp
