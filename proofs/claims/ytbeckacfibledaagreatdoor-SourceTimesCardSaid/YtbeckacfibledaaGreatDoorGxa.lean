/- Expressions: what reading them comes to, and what they are told as; trees. -/
import Derived.Test.YtbeckacfibledaaGreatDoorLya
set_option linter.unusedVariables false
set_option linter.unusedSimpArgs false

namespace Go.Px
abbrev Tok:=Int×Int×au×Int
abbrev aX:=List Tok
abbrev Nd:=Int×Int×au×Int×Int
abbrev bz:=List Nd
def at? {α:Type}(l:List α)(i:Int):Option α :=
 match i with
 |.ofNat n=>l[n]?
 |.negSucc _=>none
def qP (t:Tok)(s:au):Bool:=decide (t.1=4)&&decide (t.2.2.1=s)
def zy (nm:au->Bool)(t:Tok):Option Nd :=
 if t.1=2 then some (1,t.2.1,[],0,0)
 else if t.1=1/\nm t.2.2.1=true then some (2,0,t.2.2.1,0,0)
 else if qP t [36]=true then some (3,0,[],0,0)
 else if qP t [36,36]=true then some (4,0,[],0,0)
 else none
def pref (t:Tok):Option Int :=
 if qP t [45]=true then some 5 else if qP t [126]=true then some 6 else if qP t [43]=true then some 0 else none
def aoU:List (au×Int×Int):=[([42],7,6),([47],8,6),([37],9,6),([43],10,5),([45],11,5),([60,60],12,4),([62,62],13,4),([38],14,3),([94],15,2),([124],16,1)]
def me (s:au):List (au×Int×Int)->Int×Int
 |[]=>(0,0)
 |q::l=>if s=q.1 then q.2 else me s l
def bin (t:Tok):Int×Int:=if t.1=4 then me t.2.2.1 aoU else (0,0)
structure St where
 a:Int
 d:Int
 x:bz
 e:Int
 f:Int
abbrev l7:=Option (Bool×St)
def ym (st:St)(e f:Int):l7:=some (false,{ st with e:=e,f:=f })
def rE (st:St)(n:Nd)(f:Int)(k:St->l7):l7:=if st.x.length=200 then ym st 3 f else k { st with x:=st.x++[n] }
def ri (st:St)(k:St->l7):l7:=if st.d=50 then ym st 3 st.a else k { st with d:=st.d+1,a:=st.a+1 }
def Le (r:l7)(k:St->l7):l7 :=
 match r with
 |some (true,st)=>k st
 |some (false,st)=>some (false,st)
 |none=>none
section
variable (nm:au->Bool) (l:aX)
def ou (rec:Int->St->l7)(st:St)(k:St->l7):l7 :=
 match at? l st.a with
 |none=>ym st 4 st.a
 |some t=>match zy nm t with
  |some n=>rE { st with a:=st.a+1 } n st.a k
  |none=>match pref t with
   |some op=>ri st λe=>Le (rec 7 e) λb =>
    if op=0 then k { b with d:=b.d-1 } else rE { b with d:=b.d-1 } (op,0,[],b.x.length-1,0) st.a k
   |none=>if qP t [40]=true then ri st λe=>Le (rec 1 e) λb=>match at? l b.a with
     |none=>ym b 4 b.a
     |some c=>if qP c [41]=true then k { b with d:=b.d-1,a:=b.a+1 } else ym b 4 b.a
    else ym st 4 st.a
def jQ (rec:Int->St->l7)(str:Int):Nat->St->l7
 |0,_=>none
 |n+1,st=>match at? l st.a with
  |none=>some (true,st)
  |some t=>if (bin t).2<str then some (true,st) else
   Le (rec ((bin t).2+1) { st with a:=st.a+1 }) λb=>rE b ((bin t).1,0,[],st.x.length-1,b.x.length-1) st.a (jQ rec str n)
def ef:Nat->Int->St->l7
 |0=>λ_ _=>none
 |k+1=>λstr st=>ou nm l (ef k) st (jQ l (ef k) str (l.length+1))
end
inductive T where
 |leaf (n:Nd)
 |un (op:Int) (a:T)
 |bi (op:Int) (a b:T)
def T.size:T->Nat
 |.leaf _=>1
 |.un _ a=>a.size+1
 |.bi _ a b=>a.size+b.size+1
def T.post (b:Nat):T->bz
 |.leaf n=>[n]
 |.un op a=>a.post b++[(op,0,[],((b+a.size:Nat):Int)-1,0)]
 |.bi op u v=>u.post b++(v.post (b+u.size)++[(op,0,[],((b+u.size:Nat):Int)-1,((b+u.size+v.size:Nat):Int)-1)])
theorem T.sG:∀(t:T) (b:Nat),(t.post b).length=t.size
 |.leaf _,_=>rfl
 |.un _ a,b=>by simp[T.post,T.size,a.sG b]
 |.bi _ u v,b=>by simp[T.post,T.size,u.sG b,v.sG (b+u.size)];omega
def Lf (nm:au->Bool)(n:Nd):Prop :=
 (∃k,n=(1,k,[],0,0))\/(∃s,n=(2,0,s,0,0)/\nm s=true)\/n=(3,0,[],0,0)\/n=(4,0,[],0,0)
def T.ok (nm:au->Bool):T->Prop
 |.leaf n=>Lf nm n
 |.un op a=>(op=5\/op=6)/\a.ok nm
 |.bi op u v=>7<=op/\op<=16/\u.ok nm/\v.ok nm
def Gq (s:au):Tok:=(4,0,s,0)
theorem Lg {α:Type}(p r:List α)(c:α):at? (p++c::r) ((p.length:Nat):Int)=some c:=by
 show (p++c::r)[p.length]? = some c;simp
variable {nm:au->Bool}
theorem jR {α:Type}{l:List α}{i:Int}{c:α}(h:at? l i=some c):0<=i/\i<(l.length:Int):=by
 unfold at? at h;split at h
 .rename_i n;have:=(bH.1 h).1;simp;omega
 cases h
theorem adu {t:Tok}{n:Nd}(h:zy nm t=some n):Lf nm n:=by
 unfold zy at h;split at h
 .cases h;exact .inl ⟨_,rfl⟩
 split at h
 .rename_i a;cases h;exact .inr (.inl ⟨_,rfl,a.2⟩)
 split at h
 .cases h;exact .inr (.inr (.inl rfl))
 split at h
 .cases h;exact .inr (.inr (.inr rfl))
 cases h
theorem adv {t:Tok}{op:Int}(h:pref t=some op):op=0\/op=5\/op=6:=by
 unfold pref at h;split at h
 .cases h;omega
 split at h
 .cases h;omega
 split at h
 .cases h;omega
 cases h
theorem Y7 {t:Tok}(h:1<=(bin t).2):7<=(bin t).1/\(bin t).1<=16/\(bin t).2<=6:=by
 have key:∀(s:au) (m:List (au×Int×Int)),(∀q∈m,7<=q.2.1/\q.2.1<=16/\q.2.2<=6)->1<=(me s m).2->7<=(me s m).1/\(me s m).1<=16/\(me s m).2<=6:=by
  intro s m;induction m with
  |nil=>intro _ h;exact absurd h (by show ¬(1:Int)<=0;decide)
  |cons q m c =>
   intro b h;unfold me at h ⊢;split
   .exact b q (cq ..)
   rename_i d;rw[aa d]at h;exact c (λx e=>b x (bI _ e)) h
 unfold bin at h ⊢;split
 .rename_i a;rw[ag a]at h;exact key _ _ (by decide) h
 rename_i a;rw[aa a]at h;exact absurd h (by show ¬(1:Int)<=0;decide)
def Grown (nm:au->Bool)(l:aX)(st b:St):Prop :=
 ∃t:T,t.ok nm/\b.x=st.x++t.post st.x.length/\st.a<b.a/\b.a<=(l.length:Int)/\b.d=st.d/\b.e=st.e/\b.f=st.f/\b.x.length<=200
theorem go_inv {r:l7}{k:St->l7}{st':St}(h:Le r k=some (true,st')):∃s,r=some (true,s)/\k s=some (true,st'):=by
 unfold Le at h;split at h
 .exact ⟨_,rfl,h⟩
 .cases h
 cases h
theorem Gr {st:St}{n:Nd}{f:Int}{k:St->l7}{a:St}(h:rE st n f k=some (true,a)):st.x.length≠200/\k { st with x:=st.x++[n] }=some (true,a):=by
 unfold rE at h;split at h
 .cases h
 rename_i b;exact⟨b,h⟩
theorem Ok {st:St}{k:St->l7}{b:St}(h:ri st k=some (true,b)):k { st with d:=st.d+1,a:=st.a+1 }=some (true,b):=by
 unfold ri at h;split at h
 .cases h
 exact h
theorem Gs {l:aX}{rec:Int->St->l7}(hrec:∀s st st',st.x.length<=200->st.a<=(l.length:Int)->rec s st=some (true,st')->Grown nm l st st'){str:Int}(h1:1<=str):∀(n:Nat) (st0 st st':St),Grown nm l st0 st->jQ l rec str n st=some (true,st')->Grown nm l st0 st'
 |0,_,_,_,_,h=>by cases h
 |n+1,st0,st,st',hg,h=>by
  unfold jQ at h;split at h
  .cases h;exact hg
  rename_i tok jL;split at h
  .cases h;exact hg
  rename_i awS;obtain⟨s2,h2,h3⟩:=go_inv h;obtain⟨h4,h5⟩:=Gr h3;obtain⟨t,k1,k2,k3,k4,k5,k6,k7,k8⟩:=hg;have hlt:=jR jL;obtain⟨u,m1,m2,m3,m4,m5,m6,m7,m8⟩:=hrec _ { st with a:=st.a+1 } _ k8 (by show st.a+1<=_;omega) h2;have hb:=Y7 (t:=tok) (by omega);refine Gs hrec h1 n st0 { s2 with x:=s2.x++[((bin tok).1,0,[],(st.x.length:Int)-1,(s2.x.length:Int)-1)] } st' ?_ h5;refine⟨.bi (bin tok).1 t u,⟨hb.1,hb.2.1,k1,m1⟩,?_,by show st0.a<s2.a;have:st.a+1<s2.a:=m3;omega,m4,by show s2.d=_;rw[m5];exact k5,by show s2.e=_;rw[m6];exact k6,by show s2.f=_;rw[m7];exact k7,?_⟩
  .show s2.x++[_]=_;have e2:s2.x=st.x++u.post st.x.length:=m2;have el:st.x.length=st0.x.length+t.size:=by rw[k2,aA,T.sG]
   have el2:s2.x.length=st0.x.length+t.size+u.size:=by rw[e2,aA,T.sG,el]
   rw[el2,e2,el,k2];simp only[T.post,bC]
  show (s2.x++[_]).length<=200;have:s2.x.length<=200:=m8;simp;omega
theorem mS (l:aX):∀(k:Nat) (str:Int) (st st':St),1<=str->st.x.length<=200->st.a<=(l.length:Int)->ef nm l k str st=some (true,st')->Grown nm l st st'
 |0,_,_,_,_,_,_,h=>by cases h
 |k+1,str,st,st',hs,hx,ha,h=>by
  have h:ou nm l (ef nm l k) st (jQ l (ef nm l k) str (l.length+1))=some (true,st'):=h;have Tl:∀s1,Grown nm l st s1->jQ l (ef nm l k) str (l.length+1) s1=some (true,st')->Grown nm l st st':=λs1 hg hm =>
   Gs (rec:=λs st=>if 1<=s then ef nm l k s st else none) (λs a b hxa haa hr=>by
    split at hr
    .rename_i h1;exact mS l k s a b h1 hxa haa hr
    cases hr) hs (l.length+1) st s1 st' hg (by
    have:∀n s,jQ l (λs st=>if 1<=s then ef nm l k s st else none) str n s=jQ l (ef nm l k) str n s:=by
     intro n;induction n with
     |zero=>intro s;rfl
     |succ n ih =>
      intro s;unfold jQ;split
      .rfl
      split
      .rfl
      rename_i tok _ hlt;rw[ag (by omega)];congr 1
      funext s2
      rw[show jQ l (λs st=>if 1<=s then ef nm l k s st else none) str n=jQ l (ef nm l k) str n from funext ih]
    rw[this];exact hm)
  unfold ou at h;split at h
  .cases h
  rename_i tok jL;have hlt:=jR jL;split at h
  .rename_i n hn;obtain⟨h4,h5⟩:=Gr h;refine Tl { st with a:=st.a+1,x:=st.x++[n] } ⟨.leaf n,adu hn,rfl,by show st.a<st.a+1;omega,by show st.a+1<=_;omega,rfl,rfl,rfl,?_⟩ h5;show (st.x++[n]).length<=200;have:st.x.length≠200:=h4;simp;omega
  split at h
  .rename_i op hp;have h:=Ok h;obtain⟨s2,h2,h3⟩:=go_inv h;obtain⟨u,m1,m2,m3,m4,m5,m6,m7,m8⟩:=mS l k 7 { st with d:=st.d+1,a:=st.a+1 } s2 (by decide) hx (by show st.a+1<=_;omega) h2;have m3:st.a+1<s2.a:=m3;have m5:s2.d=st.d+1:=m5;split at h3
   .refine Tl { s2 with d:=s2.d-1 } ⟨u,m1,m2,by show st.a<s2.a;omega,m4,by show s2.d-1=st.d;omega,m6,m7,m8⟩ h3
   rename_i hop;obtain⟨h4,h5⟩:=Gr h3;have h4:s2.x.length≠200:=h4;refine Tl { s2 with d:=s2.d-1,x:=s2.x++[(op,0,[],(s2.x.length:Int)-1,0)] } ⟨.un op u,⟨by have:=adv hp;omega,m1⟩,?_,by show st.a<s2.a;omega,m4,by show s2.d-1=st.d;omega,m6,m7,?_⟩ h5
   .show s2.x++[_]=_;have e2:s2.x=st.x++u.post st.x.length:=m2;rw[e2];simp[T.post,T.sG]
   show (s2.x++[_]).length<=200;have:s2.x.length<=200:=m8;simp;omega
  split at h
  .have h:=Ok h;obtain⟨s2,h2,h3⟩:=go_inv h;obtain⟨u,m1,m2,m3,m4,m5,m6,m7,m8⟩:=mS l k 1 { st with d:=st.d+1,a:=st.a+1 } s2 (by decide) hx (by show st.a+1<=_;omega) h2;have m3:st.a+1<s2.a:=m3;have m5:s2.d=st.d+1:=m5;split at h3
   .cases h3
   rename_i c hc;have ai4:=jR hc;split at h3
   .exact Tl { s2 with d:=s2.d-1,a:=s2.a+1 } ⟨u,m1,m2,by show st.a<s2.a+1;omega,by show s2.a+1<=_;omega,by show s2.d-1=st.d;omega,m6,m7,m8⟩ h3
   cases h3
  cases h
theorem go_some {r:l7}{k:St->l7}(h:∃x,r=some x)(hk:∀s,r=some (true,s)->∃y,k s=some y):∃y,Le r k=some y:=by
 obtain⟨⟨b,s⟩,rfl⟩:=h;cases b with
 |true=>exact hk s rfl
 |false=>exact⟨_,rfl⟩
theorem Db {st:St}{n:Nd}{f:Int}{k:St->l7} (a:st.x.length≠200->∃y,k { st with x:=st.x++[n] }=some y):∃y,rE st n f k=some y:=by
 unfold rE;split
 .exact ⟨_,rfl⟩
 rename_i h;exact a h
theorem Jd {st:St}{k:St->l7} (b:∃y,k { st with d:=st.d+1,a:=st.a+1 }=some y):∃y,ri st k=some y:=by
 unfold ri;split
 .exact ⟨_,rfl⟩
 exact b
theorem ug (l:aX):∀(k:Nat) (str:Int) (st:St),1<=str->st.x.length<=200->0<=st.a->st.a<=(l.length:Int)->(l.length:Int)-st.a<k->∃r,ef nm l k str st=some r
 |0,_,_,_,_,_,_,h=>by omega
 |k+1,str,st,hs,hx,h0,ha,hk=>by
  have more:∀(n:Nat) (s:St),s.x.length<=200->st.a<s.a->s.a<=(l.length:Int)->(l.length:Int)-s.a<n->∃r,jQ l (ef nm l k) str n s=some r:=by
   intro n;induction n with
   |zero=>intro s _ _ _ h;omega
   |succ n ih =>
    intro s hsx hsa hsl hn;unfold jQ;split
    .exact ⟨_,rfl⟩
    rename_i tok jL;have hlt:=jR jL;split
    .exact ⟨_,rfl⟩
    refine go_some (ug l k _ { s with a:=s.a+1 } (by omega) hsx (by show 0<=s.a+1;omega) (by show s.a+1<=_;omega) (by show _-(s.a+1)<_;omega)) λs2 h2=>Db λhne=>?_
    obtain⟨u,m1,m2,m3,m4,m5,m6,m7,m8⟩:=mS l k _ { s with a:=s.a+1 } s2 (by omega) hsx (by show s.a+1<=_;omega) h2;have m3:s.a+1<s2.a:=m3;exact ih _ (by show (s2.x++[_]).length<=200;simp;omega) (by show st.a<s2.a;omega) m4 (by show _-s2.a<_;omega)
  show ∃r,ou nm l (ef nm l k) st (jQ l (ef nm l k) str (l.length+1))=some r;unfold ou;split
  .exact ⟨_,rfl⟩
  rename_i tok jL;have hlt:=jR jL;split
  .exact Db λhne=>more _ _ (by show (st.x++[_]).length<=200;have:st.x.length≠200:=hne;simp;omega) (by show st.a<st.a+1;omega) (by show st.a+1<=_;omega) (by show _-(st.a+1)<_;omega)
  split
  .refine Jd (go_some (ug l k 7 { st with d:=st.d+1,a:=st.a+1 } (by decide) hx (by show 0<=st.a+1;omega) (by show st.a+1<=_;omega) (by show _-(st.a+1)<_;omega)) λs2 h2=>?_);obtain⟨u,m1,m2,m3,m4,m5,m6,m7,m8⟩:=mS l k _ { st with d:=st.d+1,a:=st.a+1 } s2 (by decide) hx (by show st.a+1<=_;omega) h2;have m3:st.a+1<s2.a:=m3;split
   .exact more _ _ m8 (by show st.a<s2.a;omega) m4 (by show _-s2.a<_;omega)
   exact Db λhne=>more _ _ (by show (s2.x++[_]).length<=200;have:s2.x.length≠200:=hne;simp;omega) (by show st.a<s2.a;omega) m4 (by show _-s2.a<_;omega)
  split
  .refine Jd (go_some (ug l k 1 { st with d:=st.d+1,a:=st.a+1 } (by decide) hx (by show 0<=st.a+1;omega) (by show st.a+1<=_;omega) (by show _-(st.a+1)<_;omega)) λs2 h2=>?_);obtain⟨u,m1,m2,m3,m4,m5,m6,m7,m8⟩:=mS l k _ { st with d:=st.d+1,a:=st.a+1 } s2 (by decide) hx (by show st.a+1<=_;omega) h2;have m3:st.a+1<s2.a:=m3;split
   .exact ⟨_,rfl⟩
   rename_i c hc;have ai4:=jR hc;split
   .exact more _ _ m8 (by show st.a<s2.a+1;omega) (by show s2.a+1<=_;omega) (by show _-(s2.a+1)<_;omega)
   exact⟨_,rfl⟩
  exact⟨_,rfl⟩
end Go.Px
namespace Go.Px
variable {nm:au->Bool}
def gN (nm:au->Bool)(n:Nd):Bool :=
 decide (1<=n.1)&&decide (n.1<=16)&&(decide (n.1=1)||decide (n.2.1=0))&&(if n.1=2 then nm n.2.2.1 else decide (n.2.2.1=[]))&&(!decide (n.1<=4)||decide (n.2.2.2.1=0))&&(decide (6<n.1)||decide (n.2.2.2.2=0))
def Gv (i:Int)(n:Nd)(o:cZ):Option cZ :=
 if n.1<=4 then some (o++[i])
 else if n.1<=6 then (if o.length<1\/o[o.length-1]? ≠ some n.2.2.2.1 then none else some (o.take (o.length-1)++[i]))
 else (if o.length<2\/o[o.length-2]? ≠ some n.2.2.2.1\/o[o.length-1]? ≠ some n.2.2.2.2 then none else some (o.take (o.length-2)++[i]))
def vM (nm:au->Bool):Nat->bz->cZ->Int
 |_,[],o=>if o.length=1 then 0 else 2
 |i,n::r,o=>if gN nm n=true then (match Gv i n o with
  |some a=>vM nm (i+1) r a
  |none=>2) else 2
def tj (nm:au->Bool)(x:bz):Int:=if 200<x.length then 3 else vM nm 0 x []
theorem agt {n:Nd}(h:gN nm n=true)(b:n.1<=4):Lf nm n:=by
 obtain⟨op,k,s,L,R⟩:=n;simp only[gN,ak,dA,aZ,aU,bJ]at h;simp only at b;obtain⟨⟨⟨⟨⟨e,f⟩,g⟩,a⟩,i⟩,j⟩:=h;have c:L=0:=by omega
 have d:R=0:=by omega
 subst c;subst d;obtain rfl|rfl|rfl|rfl:op=1\/op=2\/op=3\/op=4:=by omega
 .rw[aa (by decide)]at a;have:s=[]:=gz a;subst this;exact .inl ⟨k,rfl⟩
 .have:k=0:=by omega
  subst this;rw[ag rfl]at a;exact .inr (.inl ⟨s,rfl,a⟩)
 .have:k=0:=by omega
  subst this;rw[aa (by decide)]at a;have:s=[]:=gz a;subst this;exact .inr (.inr (.inl rfl))
 have:k=0:=by omega
 subst this;rw[aa (by decide)]at a;have:s=[]:=gz a;subst this;exact .inr (.inr (.inr rfl))
theorem Zj (o:cZ)(a:Int):(o++[a])[(o++[a]).length-1]? = some a:=by simp
theorem Vx (o:cZ)(a:Int):(o++[a]).take ((o++[a]).length-1)=o:=by simp
theorem Om {n:Nd}(h:Lf nm n):gN nm n=true/\n.1<=4:=by
 rcases h with⟨k,rfl⟩|⟨s,rfl,a⟩|rfl|rfl
 .exact ⟨by simp[gN],by show (1:Int)<=4;decide⟩
 .exact ⟨by simp[gN,a],by show (2:Int)<=4;decide⟩
 .exact ⟨by simp[gN],by show (3:Int)<=4;decide⟩
 exact⟨by simp[gN],by show (4:Int)<=4;decide⟩
theorem B2:∀(t:T),t.ok nm->∀(i:Nat) (r:bz) (o:cZ),vM nm i (t.post i++r) o=vM nm (i+t.size) r (o++[((i+t.size:Nat):Int)-1])
 |.leaf n,h,i,r,o=>by
  obtain⟨c,d⟩:=Om h;show vM nm i (n::r) o=_;rw[vM,ag c];unfold Gv;rw[ag d];simp only[T.size];congr 3;omega
 |.un op a,⟨b,f⟩,i,r,o=>by
  have e:(T.un op a).post i++r=a.post i++((op,0,[],((i+a.size:Nat):Int)-1,0)::r):=by simp[T.post]
  rw[e,B2 a f,vM,ag (by rcases b with rfl|rfl<;>simp[gN])];unfold Gv;simp only;rw[aa (by omega),ag (by omega),aa (by rw[Zj];simp),Vx];show vM nm (i+a.size+1) r (o++[((i+a.size:Nat):Int)])=vM nm (i+a.size+1) r (o++[((i+a.size+1:Nat):Int)-1]);rw[show ((i+a.size+1:Nat):Int)-1=((i+a.size:Nat):Int) by omega]
 |.bi op u v,⟨m,g,j,k⟩,i,r,o=>by
  have e:(T.bi op u v).post i++r=u.post i++(v.post (i+u.size)++((op,0,[],((i+u.size:Nat):Int)-1,((i+u.size+v.size:Nat):Int)-1)::r)):=by simp[T.post]
  rw[e,B2 u j,B2 v k,vM,ag (by
   simp only[gN,ak,dA,aZ,aU,bJ];rw[aa (by omega)];refine⟨⟨⟨⟨⟨by omega,by omega⟩,.inr trivial⟩,by simp⟩,.inl (by omega)⟩,.inl (by omega)⟩)]
  unfold Gv;simp only;rw[aa (by omega),aa (by omega),aa (by simp)];have l:(o++[((i+u.size:Nat):Int)-1]++[((i+u.size+v.size:Nat):Int)-1]).take ((o++[((i+u.size:Nat):Int)-1]++[((i+u.size+v.size:Nat):Int)-1]).length-2)=o:=by simp
  rw[l];show vM nm (i+u.size+v.size+1) r (o++[((i+u.size+v.size:Nat):Int)])=vM nm (i+(u.size+v.size+1)) r (o++[((i+(u.size+v.size+1):Nat):Int)-1]);rw[show i+(u.size+v.size+1)=i+u.size+v.size+1 by omega,show ((i+u.size+v.size+1:Nat):Int)-1=((i+u.size+v.size:Nat):Int) by omega]
theorem Vy {t:T}(h:t.ok nm)(a:t.size<=200):tj nm (t.post 0)=0:=by
 unfold tj;rw[T.sG,aa (by omega)];have:=B2 t h 0 [] [];rw[dS]at this;rw[this];rfl
def oa (nm:au->Bool)(l:aX)(a:Int):Option (bz×Int×Int×Int) :=
 if a<0\/(l.length:Int)<a then some ([],0,2,0) else
 match ef nm l (l.length+1) 1 ⟨a,0,[],0,0⟩ with
 |some (true,st)=>some (st.x,st.a,0,0)
 |some (false,st)=>some ([],0,st.e,st.f)
 |none=>none
theorem rQ (l:aX)(a:Int):∃r,oa nm l a=some r:=by
 unfold oa;split
 .exact ⟨_,rfl⟩
 rename_i h;obtain⟨⟨b,st⟩,c⟩:=ug (nm:=nm) l (l.length+1) 1 ⟨a,0,[],0,0⟩ (by decide) (by simp) (by show 0<=a;omega) (by show a<=_;omega) (by show _-a<_;omega);rw[c];cases b<;>exact⟨_,rfl⟩
def sP (r:l7):Prop:=∀st,r=some (false,st)->st.e≠0
theorem De (st:St){e:Int}(f:Int)(h:e≠0):sP (ym st e f):=λs a=>by cases a;exact h
theorem go_f {r:l7}{k:St->l7}(h:sP r)(hk:∀s,sP (k s)):sP (Le r k):=λst hs=>by
 unfold Le at hs;split at hs
 .exact hk _ st hs
 .cases hs;exact h _ rfl
 cases hs
theorem Q9 {st:St}{n:Nd}{f:Int}{k:St->l7}(a:∀s,sP (k s)):sP (rE st n f k):=by
 unfold rE;split
 .exact De _ _ (by decide)
 exact a _
theorem Zk {st:St}{k:St->l7}(a:∀s,sP (k s)):sP (ri st k):=by
 unfold ri;split
 .exact De _ _ (by decide)
 exact a _
theorem Zl {l:aX}{rec:Int->St->l7}(hr:∀s st,sP (rec s st))(str:Int):∀(n:Nat) (st:St),sP (jQ l rec str n st)
 |0,st=>λ_ h=>by cases h
 |n+1,st=>by
  unfold jQ;split
  .intro _ h;cases h
  split
  .intro _ h;cases h
  exact go_f (hr _ _) λs=>Q9 λs=>Zl hr str n s
theorem EE (l:aX):∀(k:Nat) (str:Int) (st:St),sP (ef nm l k str st)
 |0,_,_=>λ_ h=>by cases h
 |k+1,str,st=>by
  have ih:=EE l k;show sP (ou nm l (ef nm l k) st (jQ l (ef nm l k) str (l.length+1)));have hm:=Zl (l:=l) ih str (l.length+1);unfold ou;split
  .exact De _ _ (by decide)
  split
  .exact Q9 hm
  split
  .refine Zk λs=>go_f (ih _ _) λs=>?_
   split
   .exact hm _
   exact Q9 hm
  split
  .refine Zk λs=>go_f (ih _ _) λs=>?_
   split
   .exact De _ _ (by decide)
   split
   .exact hm _
   exact De _ _ (by decide)
  exact De _ _ (by decide)
theorem On {l:aX}{a:Int}{y:bz}{e f g:Int}(h:oa nm l a=some (y,e,f,g)):(f≠0->y=[]/\e=0)/\(f=0->tj nm y=0/\a<e/\e<=(l.length:Int)):=by
 unfold oa at h;split at h
 .cases h;exact⟨λ_=>⟨rfl,rfl⟩,λh=>absurd h (by decide)⟩
 rename_i m;split at h
 .rename_i st b;cases h;refine⟨λh=>absurd rfl h,λ_=>?_⟩;obtain⟨t,i,c,j,k,n,_,_,d⟩:=mS l _ 1 ⟨a,0,[],0,0⟩ st (by decide) (by simp) (by show a<=_;omega) b;have c:st.x=t.post 0:=by rw[c];rfl
  refine⟨?_,j,k⟩;rw[c]at d ⊢;exact Vy i (by rw[T.sG]at d;exact d)
 .rename_i st b;cases h;exact⟨λ_=>⟨rfl,rfl⟩,λh=>absurd h (EE l _ _ _ st b)⟩
 cases h
end Go.Px
namespace Go.Px
abbrev Sym:=au×Int×Bool
def LS:List Sym->au->Option Sym
 |[],_=>none
 |q::l,s=>if q.1=s then some q else LS l s
def DS (l:List Sym)(s:au):Option Sym:=LS l.reverse s
def Hg (v:cZ)(i:Int):Int:=(at? v i).getD 0
section
variable (neg inv:Int->Int) (bin:Int->Int->Int->Int×Bool) (l:List Sym) (here start:Int)
def opE (v:cZ)(nd:Nd):Int×Int×Bool :=
 if nd.1=1 then (0,nd.2.1,false)
 else if nd.1=2 then (match DS l nd.2.2.1 with
  |some q=>(0,q.2.1,q.2.2)
  |none=>(6,0,false))
 else if nd.1=3 then (0,here,true)
 else if nd.1=4 then (0,start,true)
 else if nd.1=5 then (0,neg (Hg v nd.2.2.2.1),false)
 else if nd.1=6 then (0,inv (Hg v nd.2.2.2.1),false)
 else if (bin nd.1 (Hg v nd.2.2.2.1) (Hg v nd.2.2.2.2)).2=true then (0,(bin nd.1 (Hg v nd.2.2.2.1) (Hg v nd.2.2.2.2)).1,false)
 else (5,0,false)
def evL:bz->Nat->cZ->Bool->Int×Bool×Int
 |[],i,v,p=>(Hg v ((i:Int)-1),p,0)
 |nd::r,i,v,p =>
  if (opE neg inv bin l here start v nd).1=0 then evL r (i+1) (v.set i (opE neg inv bin l here start v nd).2.1) (p||(opE neg inv bin l here start v nd).2.2)
  else (0,false,(opE neg inv bin l here start v nd).1)
end
section
variable {neg inv:Int->Int} {bin:Int->Int->Int->Int×Bool}
end
def wU:bz->cA->cA
 |[],out=>out
 |nd::r,out=>if nd.1=2/\nd.2.2.1 ∉ out then wU r (out++[nd.2.2.1]) else wU r out
theorem LU:∀(x:bz) (out:cA) (s:au),s∈wU x out↔s∈out\/∃nd∈x,nd.1=2/\nd.2.2.1=s
 |[],out,s=>by simp[wU]
 |nd::r,out,s=>by
  unfold wU;split
  .rename_i h;rw[LU r];simp only[cg,bD,kq,qw];constructor
   .rintro ((a|a)|⟨n,a,b⟩)
    .exact .inl a
    .exact .inr ⟨nd,.inl rfl,h.1,a.symm⟩
    exact .inr ⟨n,.inr a,b⟩
   rintro (a|⟨n,rfl|a,b,c⟩)
   .exact .inl (.inl a)
   .exact .inl (.inr c.symm)
   exact .inr ⟨n,a,b,c⟩
  rename_i h;rw[LU r];constructor
  .rintro (a|⟨n,a,b⟩)
   .exact .inl a
   exact .inr ⟨n,by simp[a],b⟩
  rintro (a|⟨n,a,b,c⟩)
  .exact .inl a
  rcases bD.1 a with rfl|a
  .left
   by_cases d:n.2.2.1∈out
   .rw[<-c];exact d
   exact absurd ⟨b,d⟩ h
  exact .inr ⟨n,a,b,c⟩
def ael:Nat->bz->Prop
 |_,[]=>True
 |i,nd::r=>(1<=nd.1/\(4<nd.1->0<=nd.2.2.2.1/\nd.2.2.2.1<(i:Int))/\(6<nd.1->0<=nd.2.2.2.2/\nd.2.2.2.2<(i:Int)))/\ael (i+1) r
theorem EI {nm:au->Bool}:∀(x:bz) (i:Nat) (o:cZ),(∀a∈o,0<=a/\a<(i:Int))->vM nm i x o=0->ael i x
 |[],_,_,_,_=>trivial
 |nd::r,i,o,e,h=>by
  unfold vM at h;split at h;case isFalse=>omega
  rename_i f;split at h;case h_2=>omega
  rename_i k b;have g:1<=nd.1:=by
   unfold gN at f;simp only[ak,aZ]at f;exact f.1.1.1.1.1
  have sub:∀(n:Nat) (a:Int),a∈o.take n++[(i:Int)]->0<=a/\a<((i+1:Nat):Int):=λn a c=>by
   rcases cg.1 c with c|c
   .have:=e a (List.mem_of_mem_take c);omega
   have:a=i:=by simpa using c
   omega
  have mem:∀(j:Nat) (z:Int),o[j]? = some z->0<=z/\z<(i:Int):=λj z m=>e z (bu m)
  unfold Gv at b;split at b
  .rename_i p;refine⟨⟨g,λh=>by omega,λh=>by omega⟩,EI r (i+1) k ?_ h⟩;simp only[aq]at b;subst b;intro a c;rcases cg.1 c with c|c
   .have:=e a c;omega
   have:a=i:=by simpa using c
   omega
  split at b
  .rename_i p q;split at b
   .cases b
   rename_i d;simp only[aq]at b;subst b;refine⟨⟨g,λ_=>mem _ _ (cD.1 λh=>d (.inr h)),λh=>by omega⟩,EI r (i+1) _ (sub _) h⟩
  split at b
  .cases b
  rename_i d;simp only[aq]at b;subst b;refine⟨⟨g,λ_=>mem _ _ (cD.1 λh=>d (.inr (.inl h))),λ_=>mem _ _ (cD.1 λh=>d (.inr (.inr h)))⟩,EI r (i+1) _ (sub _) h⟩
theorem Cb {nm:au->Bool}{x:bz}(h:tj nm x=0):x≠[]/\x.length<=200/\ael 0 x:=by
 unfold tj at h;split at h
 .omega
 refine⟨λe=>by subst e;simp[vM]at h,by omega,EI x 0 [] (λa h=>by cases h) h⟩
end Go.Px
namespace Go.Pp
open Go.Px
abbrev Rg:=Int×Int
abbrev Raw:=Int×(Int×Int)×((Int×Int)×(Int×Int)×Int×Int×Int)×bz×Bool
abbrev eO:=List Raw
def Tn:List (au×Int×Int):=[([98,121,116,101],1,0),([119,111,114,100],2,0),([100,119,111,114,100],4,0),([113,119,111,114,100],8,0),([111,119,111,114,100],16,0),([121,119,111,114,100],32,0),([115,104,111,114,116],0,1),([110,101,97,114],0,2),([115,116,114,105,99,116],0,3)]
def rq (t:Tok):Int×Int:=if t.1=1 then me t.2.2.1 Tn else (0,0)
def oO (t:Tok)(s:au):Bool:=decide (t.1=1)&&decide (t.2.2.1=s)
def dK (l:aX)(a:Int)(s:au):Bool:=match at? l a with
 |some t=>qP t s
 |none=>false
def DM (t:Tok):Bool := !decide (t.1=4)||(decide (t.2.2.1=[36])||(decide (t.2.2.1=[36,36])||decide (t.2.2.1=[41])))
def uU (op:Int):Bool:=decide (op=53)||(decide (op=54)||decide (68<=op/\op<=83))
def yp (c n:Int):Bool:=decide (c=5/\0<=n/\n<16)
def sizedB (n:Int):Bool:=decide (n=0\/n=1\/n=2\/n=4\/n=8\/n=16\/n=32)
def ru (n:Int):Bool:=decide (n=1\/n=2\/n=4\/n=8)
def yq (c n:Int):Bool:=decide (c=0)&&decide (n=0)
def Oo (c n:Int):Bool:=decide (c=8)&&decide (n=0)
def vm (c n:Int):Bool:=decide (c=5)&&decide (n=4)
def Oq (bc bn ic ix sc d sz:Int):Int :=
 if d < -2147483648\/2147483647<d then 5
 else if sizedB sz=false then 2
 else if yq bc bn=false/\Oo bc bn=false/\yp bc bn=false then 2
 else if yq ic ix=true then (if sc=0 then 0 else 2)
 else if yp ic ix=false\/ru sc=false\/Oo bc bn=true then 2
 else if vm ic ix=true/\(sc≠1\/vm bc bn=true) then 2
 else 0
def lZ:aX->Int->Int->Option Int
 |[],_,_=>none
 |t::r,a,d=>if qP t [40]=true then lZ r (a+1) (d+1) else if qP t [41]=true then lZ r (a+1) (if 0<d-1 then d-1 else 0)
  else if d=0/\qP t [93]=true then some a else lZ r (a+1) d
def pq (e:Int):Tok->aX->Int->Int->Int
 |_,[],_,_=>e
 |p,t::r,a,d=>if qP t [40]=true then pq e t r (a+1) (d+1) else if qP t [41]=true then pq e t r (a+1) (if 0<d-1 then d-1 else 0)
  else if d=0/\(qP t [43]=true\/qP t [45]=true)/\DM p=true then a else pq e t r (a+1) d
def Ea:Tok:=(0,0,[],0)
def jU (l:aX)(a:Int):Option Int:=lZ (l.drop a.toNat) a 0
def eP (l:aX)(a e:Int):Int:=pq e ((at? l (a-1)).getD Ea) ((l.take e.toNat).drop a.toNat) a 0
structure TS where
 bc:Int
 bn:Int
 ic:Int
 ix:Int
 sc:Int
 put:aX
abbrev qa:=Bool×Int×Int×TS
def lC (s:TS)(e f:Int):qa:=(false,e,f,s)
def okO (s:TS):qa:=(true,0,0,s)
section
variable (rp:au->Int×Int×Bool) (l:aX)
def qb (t:Tok):Option Rg:=if t.1=1/\(rp t.2.2.1).2.2=true/\(rp t.2.2.1).1≠8 then some ((rp t.2.2.1).1,(rp t.2.2.1).2.1) else none
def kL (sg:au)(r:Rg)(a:Int)(s:TS):qa :=
 if sg=[45] then lC s 2 a else if s.bc=0/\s.bn=0 then okO { s with bc:=r.1,bn:=r.2 }
 else if s.ic=0/\s.ix=0 then okO { s with ic:=r.1,ix:=r.2,sc:=1 } else lC s 2 a
def gY (sg:au)(r:Rg)(a num n:Int)(s:TS):qa :=
 if sg=[45]\/¬(s.ic=0/\s.ix=0) then lC s 2 a
 else if ru n=true then okO { s with ic:=r.1,ix:=r.2,sc:=n } else lC s 2 num
def Df (l:aX)(a b:Int):aX:=(l.drop a.toNat).take (b.toNat-a.toNat)
def od (sg:au)(a b:Int)(s:TS):qa :=
 okO { s with put:=(if sg=[45]\/s.put≠[] then s.put++[Gq sg] else s.put)++[Gq [40]]++Df l a b++[Gq [41]] }
def lH (sg:au)(a b:Int)(s:TS):qa :=
 if b-a=0 then lC s 4 a
 else if b-a=1 then match at? l a with
  |some t=>if oO t [114,105,112]=true then kL sg (8,0) a s else match qb rp t with
   |some r=>kL sg r a s
   |none=>od l sg a b s
  |none=>lC s 0 0
 else if b-a=3/\dK l (a+1) [42]=true then match at? l a,at? l (a+2) with
  |some t,some u=>match qb rp t,qb rp u with
   |some r,some q=>if u.1=2 then gY sg r a (a+2) u.2.1 s else if t.1=2 then gY sg q a a t.2.1 s else od l sg a b s
   |some r,none=>if u.1=2 then gY sg r a (a+2) u.2.1 s else od l sg a b s
   |none,some q=>if t.1=2 then gY sg q a a t.2.1 s else od l sg a b s
   |none,none=>od l sg a b s
  |_,_=>lC s 0 0
 else od l sg a b s
def n9 (e:Int):Nat->au->Int->TS->Option qa
 |0,_,_,_=>none
 |n+1,sg,a,s=>match lH rp l sg a (eP l a e) s with
  |(true,_,_,b)=>if eP l a e=e then some (okO b) else match at? l (eP l a e) with
   |some t=>n9 e n t.2.2.1 (eP l a e+1) b
   |none=>none
  |(false,x,f,b)=>some (lC b x f)
end
end Go.Pp
