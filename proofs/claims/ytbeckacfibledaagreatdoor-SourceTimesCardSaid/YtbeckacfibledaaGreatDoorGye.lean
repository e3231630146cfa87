/- SourceTimes: a line's tokens, wherever it stands; and without a carriage return. -/
import Derived.Test.YtbeckacfibledaaGreatDoorGrj
import Derived.Test.YtbeckacfibledaaGreatDoorGyc
import Derived.Test.YtbeckacfibledaaGreatDoorGyd
set_option linter.unusedVariables false
set_option linter.unusedSimpArgs false

namespace Go.Proofs.YtbeckacfibledaaGreatDoor.ps.sr
open Go.Tv Go.Ev Go.Px Go.Pp Go.Proofs.YtbeckacfibledaaGreatDoor.ex
set_option maxRecDepth 100000
noncomputable section
def EnT (t:au):Prop:=t=[]\/t=[13]
def ShC {α:Type}(P:Nat)(r r':α×Int×Int×Int):Prop:=r'.2.2.1=r.2.2.1/\(r.2.2.1=0->r'.1=r.1/\r'.2.1=r.2.1+P)
section
variable {P w t:au}
theorem akd {a e:Nat}(h:e<=w.length):dZ (P++w++t) ((P.length+a:Nat):Int) ((P.length+e:Nat):Int)=dZ w (a:Int) (e:Int):=by
 unfold dZ;simp only[bf];have b:P.length+e-(P.length+a)=e-a:=by omega
 rw[b,bC,<-dB,eI];by_cases c:a<=w.length
 .rw[ek c,eo (by rw[bB];omega)]
 have:e-a=0:=by omega
 rw[this];simp
theorem TK {a:Nat}(h:a<=w.length):(P++w++t).drop (P.length+a)=w.drop a++t:=by
 rw[bC,<-dB,eI,ek h]
theorem agL (g:EnT t)(a:Nat):∀(rest:au) (e:Nat),e+rest.length<=w.length->ShC P.length (lt.jN w a rest e) (lt.jN (P++w++t) (P.length+a) (rest++t) (P.length+e))
 |[],e,c=>by
  have f:=akd (P:=P) (w:=w) (t:=t) (a:=a) (e:=e) (by simpa using c);have j:lt.jN (P++w++t) (P.length+a) t (P.length+e)=(dZ (P++w++t) ((P.length+a:Nat):Int) ((P.length+e:Nat):Int),((P.length+e:Nat):Int),0,0):=by
   rcases g with rfl|rfl
   .rfl
   rw[lt.jN,aa (by decide)]
  rw[cE,j,f];exact⟨rfl,λ_=>⟨rfl,by show ((P.length+e:Nat):Int)=(e:Int)+P.length;omega⟩⟩
 |d::r,e,c=>by
  rw[aJ]at c;have f:=akd (P:=P) (w:=w) (t:=t) (a:=a) (e:=e) (by omega);rw[cB,lt.jN,lt.jN];by_cases b:lt.rD (cS d)=true
  .rw[ag b,ag b];by_cases i:e=a+60
   .rw[ag i,ag (by omega)];exact⟨rfl,λh=>by cases h⟩
   rw[aa i,aa (by omega)];exact agL g a r (e+1) (by omega)
  rw[aa b,aa b,f];exact⟨rfl,λ_=>⟨rfl,by show ((P.length+e:Nat):Int)=(e:Int)+P.length;omega⟩⟩
theorem Z9 (f:EnT t)(a:Nat):∀(rest:au) (e:Nat),e+rest.length<=w.length->ShC P.length (lt.iH w a rest e) (lt.iH (P++w++t) (P.length+a) (rest++t) (P.length+e))
 |[],e,g=>by
  rcases f with rfl|rfl
  .exact ⟨rfl,λh=>by cases h⟩
  rw[cE,lt.iH,lt.iH,aa (by decide),aa (by decide)];exact⟨rfl,λh=>by cases h⟩
 |d::r,e,g=>by
  rw[aJ]at g;have i:=akd (P:=P) (w:=w) (t:=t) (a:=a+1) (e:=e) (by omega);have j:((P.length+(a+1):Nat):Int)=((P.length+a:Nat):Int)+1:=by omega
  have e2:((a+1:Nat):Int)=(a:Int)+1:=by omega
  rw[j,e2]at i;rw[cB,lt.iH,lt.iH];by_cases b:cS d=34
  .rw[ag b,ag b,i];exact⟨rfl,λ_=>⟨rfl,by show ((P.length+e:Nat):Int)+1=(e:Int)+1+P.length;omega⟩⟩
  rw[aa b,aa b];by_cases c:lt.uf (cS d)=true
  .rw[ag c,ag c];exact Z9 f a r (e+1) (by omega)
  rw[aa c,aa c];exact⟨rfl,λh=>by cases h⟩
theorem agM (f:EnT t){len b:Nat}:∀(rest:au) (k N i:Nat),ShC P.length (lt.ot len rest k N i) (lt.ot b (rest++t) k N (P.length+i))
 |[],k,N,i=>by
  rcases f with rfl|rfl
  .exact ⟨rfl,λh=>by cases h⟩
  rw[cE,lt.ot,lt.ot,aa (by decide),ag (by decide)];exact⟨rfl,λh=>by cases h⟩
 |d::r,k,N,i=>by
  rw[cB,lt.ot,lt.ot];by_cases c:cS d=39
  .rw[ag c,ag c];by_cases a:k=0
   .rw[ag a,ag a];exact⟨rfl,λh=>by cases h⟩
   rw[aa a,aa a];exact⟨rfl,λ_=>⟨rfl,by show ((P.length+i:Nat):Int)+1=(i:Int)+1+P.length;omega⟩⟩
  rw[aa c,aa c];by_cases e:cS d<32\/126<cS d
  .rw[ag e,ag e];exact⟨rfl,λh=>by cases h⟩
  rw[aa e,aa e];by_cases a:k=8
  .rw[ag a,ag a];exact⟨rfl,λh=>by cases h⟩
  rw[aa a,aa a];exact agM f r _ _ (i+1)
theorem atG (b:EnT t)(x:au){g:au}(c:(13:UInt8) ∉ g):lt.preB (x++t) g=lt.preB x g:=by
 rcases b with rfl|rfl
 .rw[dS]
 unfold lt.preB;by_cases h:g.length<=x.length
 .rw[eo h]
 have d:(decide ((x++[13]).take g.length=g))=false:=by
  rw[bJ];intro a;apply c;rw[<-a,pH,cg];right
  obtain⟨k,e⟩:∃k,g.length-x.length=k+1:=⟨g.length-x.length-1,by omega⟩;rw[e];simp
 have e2:(decide (x.take g.length=g))=false:=by
  rw[bJ];intro a;have:=bO List.length a;simp only[bV]at this;omega
 rw[d,e2]
theorem agN (c:EnT t){a:Nat}(d:a<=w.length):∀l:cA,(∀g∈l,(13:UInt8) ∉ g)->ShC P.length (lt.oN w a l) (lt.oN (P++w++t) (P.length+a) l)
 |[],_=>⟨rfl,λh=>by cases h⟩
 |g::r,e=>by
  rw[lt.oN,lt.oN,TK d,atG c _ (e g (cq ..))];by_cases b:lt.preB (w.drop a) g=true
  .rw[ag b,ag b];exact⟨rfl,λ_=>⟨rfl,by show ((P.length+a:Nat):Int)+g.length=(a:Int)+g.length+P.length;omega⟩⟩
  rw[aa b,aa b];exact agN c d r λg f=>e g (bI _ f)
theorem apq (x:au)(a:Nat):ShC P.length (lt.sV x a) (lt.sV x (P.length+a)):=by
 unfold lt.sV;split
 .exact ⟨rfl,λh=>by cases h⟩
 split
 .exact ⟨rfl,λh=>by cases h⟩
 exact⟨rfl,λ_=>⟨rfl,by show ((P.length+a:Nat):Int)+x.length=(a:Int)+x.length+P.length;omega⟩⟩
theorem ake (a:EnT t)(x:au):((x++t).takeWhile λc=>lt.nQ (cS c))=x.takeWhile λc=>lt.nQ (cS c):=by
 rcases a with rfl|rfl
 .rw[dS]
 induction x with
 |nil=>rfl
 |cons d r b=>rw[cB,fQ,fQ,b]
def ShP (P:Nat)(r r':lt.Piece×Int×Int×Int):Prop:=r'.2.2.1=r.2.2.1/\(r.2.2.1=0->zt r'.1=zt r.1/\r'.2.1=r.2.1+P)
theorem akf (e:EnT t){a:Nat}{d:UInt8}{r:au}(k:w.drop a=d::r):ShP P.length (lt.fN w d a) (lt.fN (P++w++t) d (P.length+a)):=by
 have o:w.length-a=r.length+1:=by have:=bO List.length k;simpa using this
 have l:(P++w++t).drop (P.length+a)=w.drop a++t:=TK (by omega);have f:(P++w++t).drop (P.length+a+1)=w.drop (a+1)++t:=by rw[kU];exact TK (by omega)
 have n:(P++w++t).drop (P.length+a)=d::(r++t):=by rw[l,k];rfl
 unfold lt.fN;by_cases g:lt.kK (cS d)=true
 .rw[ag g,ag g];unfold lt.iE;rw[l];obtain⟨g1,b⟩:=agL (P:=P) (w:=w) e a (w.drop a) a (by rw[bB];omega);exact⟨g1,λh=>⟨by show ((1:Int),(0:Int),(lt.jN _ _ _ _).1,(0:Int))=(1,0,(lt.jN _ _ _ _).1,0);rw[(b h).1],(b h).2⟩⟩
 rw[aa g,aa g];by_cases i:48<=cS d/\cS d<=57\/cS d=39
 .rw[ag i,ag i];have m:ShC P.length (lt.jq w (a:Int)) (lt.jq (P++w++t) ((P.length+a:Nat):Int)):=by
   rw[lt.Da k,lt.Da n];by_cases c:cS d=39
   .rw[ag c,ag c];unfold lt.qK;rw[f,kU];exact agM e _ _ _ _
   rw[aa c,aa c];by_cases j:48<=cS d/\cS d<=57
   .rw[ag j,ag j,l,ake e];exact apq _ _
   rw[aa j,aa j];exact⟨rfl,λh=>by cases h⟩
  obtain⟨g1,b⟩:=m;exact⟨g1,λh=>⟨by show ((2:Int),(lt.jq _ _).1,([]:au),(0:Int))=(2,(lt.jq _ _).1,[],0);rw[(b h).1],(b h).2⟩⟩
 rw[aa i,aa i];by_cases c:cS d=34
 .rw[ag c,ag c];unfold lt.vk;rw[f,kU];obtain⟨g1,b⟩:=Z9 (P:=P) (w:=w) e a (w.drop (a+1)) (a+1) (by rw[bB];omega);exact⟨g1,λh=>⟨by show ((3:Int),(0:Int),(lt.iH _ _ _ _).1,(0:Int))=(3,0,(lt.iH _ _ _ _).1,0);rw[(b h).1],(b h).2⟩⟩
 rw[aa c,aa c];unfold lt.uT;obtain⟨g1,b⟩:=agN (P:=P) (w:=w) e (a:=a) (by omega) lt.yj (by decide);exact⟨g1,λh=>⟨by show ((4:Int),(0:Int),(lt.oN _ _ _).1,(0:Int))=(4,0,(lt.oN _ _ _).1,0);rw[(b h).1],(b h).2⟩⟩
theorem aaa {T:au}{m:Nat}(h:T.drop (T.length-1)=[13]):(lt.gD T (m+1) [13]).2.1≠0:=by
 rw[lt.gD,aa (by decide),aa (by decide)];have e:lt.fN T 13 (T.length-(([]:au).length+1))=((4,0,[],((T.length-1:Nat):Int)),0,4,((T.length-1:Nat):Int)):=by
  show lt.fN T 13 (T.length-1)=_;unfold lt.fN;rw[aa (by decide),aa (by decide),aa (by decide)];have:∀l:cA,(∀g∈l,lt.preB [13] g=false)->lt.oN T (T.length-1) l=([],0,4,((T.length-1:Nat):Int)):=λl=>by
   induction l with
   |nil=>intro _;rfl
   |cons g r b =>
    intro a;rw[lt.oN,h,aa (by rw[a g (cq ..)];decide)];exact b λc d=>a c (bI _ d)
  unfold lt.uT;rw[this _ (by decide)]
 rw[e,aa (by show ¬(4:Int)=0;decide)];show ¬(4:Int)=0;decide
theorem apr (i:EnT t):∀(n m:Nat) (left:au),left.length<=n->left.length+t.length<=m->w.drop (w.length-left.length)=left->((lt.gD (P++w++t) m (left++t)).2.1=0\/t=[]) ->
 (lt.gD (P++w++t) m (left++t)).2.1=(lt.gD w n left).2.1/\zl (lt.gD (P++w++t) m (left++t)).1=zl (lt.gD w n left).1:=by
 intro n;induction n with
 |zero =>
  intro m left g e b a;have:left=[]:=aS.1 (by omega);subst this;rcases i with rfl|rfl
  .show (lt.gD _ m []).2.1=_/\zl (lt.gD _ m []).1=_;rw[lt.lex_nil,lt.lex_nil];exact⟨rfl,rfl⟩
  obtain⟨m,rfl⟩:∃k,m=k+1:=⟨m-1,by simp at e;omega⟩;rcases a with a|a
  .exact absurd a (aaa (by simp))
  cases a
 |succ n l =>
  intro m left g e b a
  match left,g,e,b,a with
  |[],g,e,b,a =>
   rcases i with rfl|rfl
   .show (lt.gD _ m []).2.1=_/\zl (lt.gD _ m []).1=_;rw[lt.lex_nil,lt.lex_nil];exact⟨rfl,rfl⟩
   obtain⟨m,rfl⟩:∃k,m=k+1:=⟨m-1,by simp at e;omega⟩;rcases a with a|a
   .exact absurd a (aaa (by simp))
   cases a
  |d::r,g,e,b,a =>
   rw[aJ]at g e b;obtain⟨m,rfl⟩:∃k,m=k+1:=⟨m-1,by omega⟩;have o:r.length+1<=w.length:=by
    have:=bO List.length b;simp only[bB,aJ]at this;omega
   have p:w.drop (w.length-r.length)=r:=by
    have:w.length-r.length=w.length-(r.length+1)+1:=by omega
    rw[this,<-dB,b];rfl
   have j:(P++w++t).length-((r++t).length+1)=P.length+(w.length-(r.length+1)):=by
    simp only[aA];omega
   rw[cB,lt.gD]at a ⊢;rw[lt.gD];rw[j]at a ⊢;by_cases f:cS d=32\/cS d=9
   .rw[ag f]at a;rw[ag f,ag f];exact l m r (by omega) (by omega) p a
   rw[aa f]at a;rw[aa f,aa f];by_cases h:cS d=59
   .rw[ag h,ag h];exact⟨rfl,rfl⟩
   rw[aa h]at a;rw[aa h,aa h];obtain⟨g1,q⟩:=akf (P:=P) i b;by_cases c:(lt.fN w d (w.length-(r.length+1))).2.2.1=0
   .obtain ⟨s,u⟩:=q c;have z:=lt.vL b c;rw[ag (by rw[g1];exact c)]at a;rw[ag (by rw[g1];exact c),ag c];have v:(lt.fN (P++w++t) d (P.length+(w.length-(r.length+1)))).2.1.toNat=P.length+(lt.fN w d (w.length-(r.length+1))).2.1.toNat:=by rw[u];omega
    have e2:(P++w++t).drop (lt.fN (P++w++t) d (P.length+(w.length-(r.length+1)))).2.1.toNat=w.drop (lt.fN w d (w.length-(r.length+1))).2.1.toNat++t:=by rw[v];exact TK (by omega)
    rw[e2]at a ⊢;obtain⟨x,y⟩:=l m (w.drop (lt.fN w d (w.length-(r.length+1))).2.1.toNat) (by rw[bB];omega) (by rw[bB];omega) (by rw[bB];congr 1;omega) a;refine⟨x,?_⟩;show zt _::zl _=zt _::zl _;rw[s,y]
   rw[aa (by rw[g1];exact c)]at a;rw[aa (by rw[g1];exact c),aa c];exact⟨g1,rfl⟩
end
theorem LL {s:au}(h:(lt.gq s).2.1=0):s.length<=1000/\(lt.gD s s.length s).2.1=0/\(lt.gq s).1=(lt.gD s s.length s).1:=by
 unfold lt.gq at h ⊢;by_cases b:1000<s.length
 .rw[ag b]at h;exact absurd h (by show ¬(3:Int)=0;decide)
 rw[aa b]at h;rw[aa b];by_cases a:(lt.gD s s.length s).2.1=0
 .rw[ag a];exact⟨by omega,a,rfl⟩
 rw[aa a]at h;exact absurd h a
theorem TL {s:au}(a:s.length<=1000)(h:(lt.gD s s.length s).2.1=0):lt.gq s=((lt.gD s s.length s).1,0,0):=by
 unfold lt.gq;rw[aa (by omega),ag h]
theorem TM (s:au):sl.gh s=s\/s=sl.gh s++[13]:=by
 unfold sl.gh;by_cases a:s=[]
 .subst a;exact .inl rfl
 have d:0<s.length:=dD.2 a;rw[gB (by omega)];show ah _ _ _=s\/s=ah _ _ _++[13];cases b:decide (dZ s ((s.length:Int)-1) s.length=[13]) with
 |false=>exact .inl rfl
 |true =>
  right
  show s=dZ s 0 ((s.length:Int)-1)++[13];rw[<-gz b];unfold dZ;have c:((s.length:Int)-1).toNat=s.length-1:=by omega
  simp only[c,bf,show ((0:Int)).toNat=0 from rfl,j3,nH];rw[cz (l:=s.drop (s.length-1)) (by rw[bB];omega),fk]
theorem aab {s:au}(h:(lt.gq s).2.1=0):(lt.gq (sl.gh s)).2.1=0/\zl (lt.gq (sl.gh s)).1=zl (lt.gq s).1:=by
 rcases TM s with e|e
 .rw[e];exact⟨h,rfl⟩
 generalize sl.gh s=w at e;subst e;obtain⟨j,a,f⟩:=LL h;have d:(w++[13]).length=w.length+1:=by simp
 have b:(lt.gD ([]++w++[13]) (w.length+1) (w++[13])).2.1=0:=by rw[d]at a;exact a
 have c:=apr (P:=[]) (w:=w) (t:=[13]) (.inr rfl) w.length (w.length+1) w (aG _) (aG _) (by simp) (.inl b);rw[<-d]at c;rw[cE]at c;obtain⟨g,i⟩:=c;have:=TL (s:=w) (by omega) (g.symm.trans a);rw[this,f];exact⟨rfl,i.symm⟩
def VO (x:RS):RS:={ x with a:=0,e:=0,f:=0 }
def A3 (k:Int)(X:bz)(s:RS):RS:={ s with a:=s.a+k,ai:=X }
def Tq (X:bz)(r r':LR):Prop:=r.1=true->r'.1=true/\VO r'.2={ VO r.2 with ai:=X }
section
variable {n n':Int} {p l:aX} {X:bz}
theorem EH {s:RS}{e i:Int}{r':LR}:Tq X (iT n l s e i) r':=λh=>by cases h
theorem apu {s:RS}{k:Int}:Tq X (true,s) (true,A3 k X s):=λ_=>⟨rfl,rfl⟩
theorem agR {s i:RS}(j:i.a=s.a+p.length)(h:0<=s.a){go c:bz->Int->LR}(k:∀x e,0<=e->Tq X (go x e) (c x (e+p.length))):Tq X (Dj n l s go) (Dj n' (p++l) i c):=by
 unfold Dj;rw[j];rcases OS (p:=p) (l:=l) h with⟨x,e,d,g,m⟩|⟨e,f,o,d,g⟩
 .rw[d,g,aa (λq=>q rfl),aa (λq=>q rfl)];exact k x e m
 rw[d,g];by_cases b:e≠0
 .rw[ag b];exact EH
 rw[aa b,aa b];have b:=cD.1 b;subst b;exfalso;have:=(qM (l:=l) (a:=s.a) (by rw[d])).1;rw[d]at this;have this:s.a<0:=this;omega
theorem RI {fin:Bool}{J f:RS->LR}(g:∀s,0<=s.a->Tq X (J s) (f (A3 p.length X s))){s:RS}(h:0<=s.a):Tq X (rR n l fin J s) (rR n' (p++l) fin f (A3 p.length X s)):=by
 have hlen:((p++l).length:Int)=p.length+l.length:=by simp
 have i:(A3 p.length X s).a=s.a+p.length:=rfl;unfold rR;rw[i,hlen,uV h];have e:s.a+(p.length:Int)+1=s.a+1+p.length:=by omega
 by_cases b:s.a=l.length/\fin=true
 .have c:s.a+(p.length:Int)=p.length+l.length/\fin=true:=⟨by have:=b.1;omega,b.2⟩;rw[ag b,ag c];exact apu
 have c:¬(s.a+(p.length:Int)=p.length+l.length/\fin=true):=λq=>b ⟨by have:=q.1;omega,q.2⟩
 rw[aa b,aa c,e];by_cases d:dK l s.a [44]=true
 .rw[ag d,ag d];exact g { s with a:=s.a+1 } (by show 0<=s.a+1;omega)
 rw[aa d];exact EH
theorem aeg {a:Int}(h:0<=a):rS (p++l) (a+p.length)=rS l a:=by unfold rS;rw[ur p l h]
theorem aeh {a:Int}(h:0<=a):iJ (p++l) (a+p.length)=iJ l a:=by unfold iJ;rw[ur p l h]
theorem aah:∀(m:Nat) (s:RS),0<=s.a->Tq X (B5 n l m s) (B5 n' (p++l) m (A3 p.length X s))
 |0,s,h=>λq=>by cases q
 |m+1,s,h=>by
  have b:(A3 p.length X s).a=s.a+p.length:=rfl;have c:(A3 p.length X s).data=s.data:=rfl;unfold B5;rw[b,c,aeg h];split
  .exact EH
  split
  .rename_i t _;rw[show s.a+(p.length:Int)+1=s.a+1+p.length by omega];exact RI (s:={ s with a:=s.a+1,data:=s.data++[(t,[])] }) (aah m) (by show 0<=s.a+1;omega)
  exact agR rfl h λx e d=>RI (s:={ s with a:=e,data:=s.data++[([],x)] }) (aah m) d
theorem agS:∀(m:Nat) (s:RS),0<=s.a->Tq X (HM n l m s) (HM n' (p++l) m (A3 p.length X s))
 |0,s,h=>λq=>by cases q
 |m+1,s,h=>by
  have b:(A3 p.length X s).data=s.data:=rfl;unfold HM;rw[b];split
  .exact EH
  exact agR rfl h λx e c=>RI (s:={ s with a:=e,data:=s.data++[([],x)] }) (agS m) c
def Fm (s:RS)(r:LR):Prop:=r.2.ai=s.ai/\r.2.sz=s.sz
theorem agT:∀(m:Nat) (s:RS),Fm s (B5 n l m s)
 |0,s=>⟨rfl,rfl⟩
 |m+1,s=>by
  have d:∀t:RS,t.ai=s.ai->t.sz=s.sz->Fm s (rR n l true (B5 n l m) t):=λt b c=>by
   unfold rR;split
   .exact ⟨b,c⟩
   split
   .obtain ⟨g1,e⟩:=agT m { t with a:=t.a+1 };exact⟨g1.trans b,e.trans c⟩
   exact⟨b,c⟩
  unfold B5;split
  .exact ⟨rfl,rfl⟩
  split
  .exact d _ rfl rfl
  unfold Dj;split
  .exact ⟨rfl,rfl⟩
  exact d _ rfl rfl
theorem agU:∀(m:Nat) (s:RS),(HM n l m s).2.ai=s.ai
 |0,s=>rfl
 |m+1,s=>by
  have d:∀(t:RS) (b:Bool),t.ai=s.ai->(rR n l b (HM n l m) t).2.ai=s.ai:=λt b c=>by
   unfold rR;split
   .exact c
   split
   .exact (agU m { t with a:=t.a+1 }).trans c
   exact c
  unfold HM;split
  .rfl
  unfold Dj;split
  .rfl
  exact d _ _ rfl
theorem size_pos (w:au):0<qc w:=by
 unfold qc;split
 .split
  .decide
  split
  .decide
  split<;>decide
 decide
def qO (k:Int):Prop:=k=1\/k=2\/k=9
theorem RJ {w:au}(x:l.length<=200000){s:RS}(h:0<=s.a)(ok:(gZ n l w s).1=true)(b:qO (gZ n l w s).2.aC) :
 Tq X (gZ n l w s) (gZ n' (p++l) w (A3 p.length X s))/\(w≠AU/\w≠qt/\w≠xh/\w≠pV)/\(gZ n l w s).2.ai=s.ai/\(0<(gZ n l w s).2.sz\/(gZ n l w s).2.aC≠2):=by
 have no:∀{r:LR} {k:Int} {v:au},KP k v r->qO r.2.aC->¬qO k->False:=λ{r k v} q c d=>d (q.1 ▸ c)
 have j:(A3 p.length X s).a=s.a+p.length:=rfl;unfold gZ at ok b ⊢;by_cases c:w∈OD
 .simp only[ag c]at ok b ⊢;have m:w≠AU/\w≠qt/\w≠xh/\w≠pV:=by
   simp only[OD,bD,kq,qw]at c;rcases c with rfl|rfl|rfl|rfl<;>decide
  refine⟨?_,m,?_⟩
  .unfold yC;rw[j,aeh h];rw[show s.a+(p.length:Int)+1=s.a+1+p.length by omega];exact aah 70 { s with a:=s.a+1,aC:=2,sz:=qc (iJ l s.a) } (by show 0<=s.a+1;omega)
  obtain⟨g1,y⟩:=agT (n:=n) (l:=l) 70 { s with a:=s.a+1,aC:=2,sz:=qc (iJ l s.a) };exact⟨g1,.inl (by
   show 0<(B5 n l 70 { s with a:=s.a+1,aC:=2,sz:=qc (iJ l s.a) }).2.sz;rw[y];exact size_pos _)⟩
 simp only[aa c]at ok b ⊢;by_cases d:w∈ad7
 .simp only[ag d]at b;exact(no (rA (n:=n) (l:=l) 8 _) b (by unfold qO;decide)).elim
 simp only[aa d]at ok b ⊢;by_cases e:w=pV
 .simp only[ag e]at b;exact(no (rA (n:=n) (l:=l) 4 _) b (by unfold qO;decide)).elim
 simp only[aa e]at ok b ⊢;by_cases f:w=AU
 .simp only[ag f]at b;exact(no (rA (n:=n) (l:=l) 5 _) b (by unfold qO;decide)).elim
 simp only[aa f]at ok b ⊢;by_cases g:w=qt
 .simp only[ag g]at b;exfalso;unfold LC AW at b;split at b
  .exact absurd b (by show ¬qO 6;unfold qO;decide)
  split at b
  .exact absurd b (by show ¬qO 6;unfold qO;decide)
  exact no (AY (n:=n) (l:=l) _) b (by show ¬qO 6;unfold qO;decide)
 simp only[aa g]at ok b ⊢;by_cases i:w=xh
 .simp only[ag i]at b;exact(no (AY (n:=n) (l:=l) _) b (by show ¬qO 7;unfold qO;decide)).elim
 simp only[aa i]at ok b ⊢;by_cases t:w=ajT
 .simp only[ag t]at ok b ⊢;refine⟨?_,⟨f,g,i,e⟩,?_,.inr ?_⟩
  .unfold LA;rw[j];rw[show s.a+(p.length:Int)+1=s.a+1+p.length by omega];exact agS 70 { s with a:=s.a+1,aC:=9 } (by show 0<=s.a+1;omega)
  .exact agU (n:=n) (l:=l) 70 { s with a:=s.a+1,aC:=9 }
  have:=(TJ (n:=n) (l:=l) 70 { s with a:=s.a+1,aC:=9 }).1;show (HM n l 70 { s with a:=s.a+1,aC:=9 }).2.aC≠2;rw[this];show (9:Int)≠2;decide
 simp only[aa t]at ok b ⊢;by_cases u:(nm.lW w).2=true
 .simp only[ag u]at ok b ⊢;obtain⟨c1,c2,z,A⟩:=RH (p:=p) x h;unfold Rw at ok ⊢;rw[j,c1,c2,z,A];by_cases o:(dY l s.a).2.2.2.1≠0
  .rw[ag o]at ok;cases ok
  rw[aa o,aa o];exact⟨λ_=>⟨rfl,rfl⟩,⟨f,g,i,e⟩,rfl,.inr (by show (1:Int)≠2;decide)⟩
 simp only[aa u]at ok;cases ok
end
def LN (r:LR):Prop:=r.1=true->r.2.lab≠[]
section
variable {n:Int} {l:aX}
theorem HJ {k:Int}{w:au}{r:LR}(h:KP k w r)(a:w≠[]):LN r:=λ_=>by rw[h.2];exact a
theorem tC {s:RS}{e i:Int}:LN (iT n l s e i):=λh=>by cases h
variable (hl:∀t∈l,t.1=1->t.2.2.1≠[])
include hl in
theorem abI {i:Int}{s:RS}{k:RS->LR} (a:∀t,t≠[]->LN (k { s with lab:=t })):LN (AW n l i s k):=by
 unfold AW;split
 .exact tC
 rename_i t b;split
 .exact tC
 exact a t (akc (n:=n) hl i b)
include hl in
theorem afQ {w:au}{s:RS}(h:s.lab≠[]):LN (gZ n l w s):=by
 unfold gZ;split
 .exact HJ (TI _ _) h
 split
 .exact HJ (rA 8 _) h
 split
 .exact HJ (rA 4 _) h
 split
 .exact HJ (rA 5 _) h
 split
 .exact abI hl λt a=>HJ (AY _) a
 split
 .exact HJ (AY _) h
 split
 .exact HJ (TJ _ _) h
 split
 .unfold Rw;split
  .exact tC
  exact λ_=>h
 exact tC
include hl in
theorem Uo {dN:Bool}{s:RS}(h:s.lab≠[]):LN (oR n l dN s):=by
 unfold oR;split
 .split
  .exact tC
  exact λ_=>h
 split
 .exact tC
 unfold Ee;split
 .exact tC
 split
 .exact tC
 exact afQ hl h
include hl in
theorem abJ {s:RS}(h:s.lab≠[]):LN (og n l s):=by
 unfold og;split
 .unfold Dj;split
  .exact tC
  exact Uo hl h
 exact Uo hl h
include hl in
theorem Wl (h:nA l 0≠some oQ)(ok:(gM n l lJ).1=true)(c:(gM n l lJ).2.lab=[])(b:qO (gM n l lJ).2.aC) :
 ∃w,nA l 0=some w/\0<l.length/\gM n l lJ=gZ n l w lJ:=by
 have f:nA l 1≠some H8:=λq=>by
  unfold gM at b;rw[ag q]at b;unfold apd AW at b;split at b
  .exact absurd b (by show ¬qO 0;unfold qO;decide)
  split at b
  .exact absurd b (by show ¬qO 0;unfold qO;decide)
  rename_i t _ _;have i:(sW n l 3 { lJ with lab:=t,a:=2 }).2.aC=3:=(rA (n:=n) (l:=l) 3 { lJ with lab:=t,a:=2 }).1;have b:qO (sW n l 3 { lJ with lab:=t,a:=2 }).2.aC:=b;rw[i]at b;exact absurd b (by unfold qO;decide)
 have e2:¬((nA l 0).isSome=true/\dK l 1 [58]=true):=λq=>by
  have:LN (gM n l lJ):=by
   unfold gM;rw[aa f,ag q];exact abI hl λt j=>abJ hl j
  exact this ok c
 have k:gM n l lJ=oR n l false lJ:=by
  unfold gM;rw[aa f,aa e2];unfold og;have e:¬nA l lJ.a=some oQ:=h;rw[aa e]
 rw[k]at ok b ⊢;unfold oR at ok b ⊢;by_cases d:lJ.a=l.length
 .rw[ag d]at b;exact absurd b (by show ¬qO 0;unfold qO;decide)
 rw[aa d]at ok b ⊢;cases g:nA l lJ.a with
 |none=>rw[g]at ok;cases ok
 |some w =>
  refine⟨w,g,by have d:¬(0:Int)=l.length:=d;omega,?_⟩;show Ee n l w false lJ=_;unfold Ee;rw[aa (λq=>by rcases q.2 with q|q;cases q;exact q rfl),aa (λq=>by cases q.2)]
end
def uG (N:Int):bz:=[(1,N,[],0,0)]
def JS:Tok:=(1,0,oQ,0)
def JT (N:Int):Tok:=(2,N,[],0)
theorem Wm {N:Int}{c:Tok}{r:aX}(b:c.1=1):bp (JS::JT N::c::r) 1=(uG N,2,0,0):=by
 unfold bp oa;have hl:((JS::JT N::c::r).length:Int)=r.length+3:=by simp only[aJ];omega
 rw[aa (by rw[hl];omega)];have e:ef bZ (JS::JT N::c::r) ((JS::JT N::c::r).length+1) 1 ⟨1,0,[],0,0⟩=some (true,⟨2,0,uG N,0,0⟩):=by
  show jQ (JS::JT N::c::r) (ef bZ (JS::JT N::c::r) (JS::JT N::c::r).length) 1 ((JS::JT N::c::r).length+1) ⟨2,0,uG N,0,0⟩=_;rw[jQ];show (if (bin c).2<1 then _ else _)=_;have a:bin c=(0,0):=by unfold bin;rw[aa (by omega)]
  rw[a,ag (by decide)]
 rw[e];rfl
theorem Se {n n':Int}{l:aX}{N:Int}(A:l.length<=1000)(hl:∀t∈l,t.1=1->t.2.2.1≠[])(i:nA l 0≠some oQ)(ok:(gM n l lJ).1=true)(b:(gM n l lJ).2.lab=[])(g:qO (gM n l lJ).2.aC) :
 ((gM n' (JS::JT N::l) lJ).1=true/\VO (gM n' (JS::JT N::l) lJ).2={ VO (gM n l lJ).2 with ai:=uG N })/\(gM n l lJ).2.ai=[]/\(0<(gM n l lJ).2.sz\/(gM n l lJ).2.aC≠2):=by
 obtain⟨w,d,f,e⟩:=Wl (n:=n) hl i ok b g;rw[e]at ok g ⊢;obtain⟨j,⟨k2,k,m,o⟩,u,v⟩:=RJ (n:=n) (n':=n') (p:=[JS,JT N]) (X:=uG N) (l:=l) (s:=lJ) (by omega) (bL 0) ok g;refine⟨?_,u,v⟩;have e2:gM n' (JS::JT N::l) lJ=gZ n' ([JS,JT N]++l) w (A3 2 (uG N) lJ):=by
  cases l with
  |nil=>exact absurd f (by simp)
  |cons c r =>
   have x:c.1=1:=by
    have d:(if c.1=1 then some c.2.2.1 else none)=some w:=d;by_cases q:c.1=1
    .exact q
    rw[aa q]at d;cases d
   unfold gM;rw[aa (by show ¬(none:Option au)=some H8;intro q;cases q),aa (by rintro⟨_,q⟩;cases q)];unfold og;rw[ag (by rfl)];unfold Dj;have y:bp (JS::JT N::c::r) ({ lJ with a:=lJ.a+1 }:RS).a=(uG N,2,0,0):=Wm x;rw[y,aa (λq=>q rfl)];show oR n' (JS::JT N::c::r) true (A3 2 (uG N) lJ)=_;unfold oR;have hlen:((JS::JT N::c::r).length:Int)=r.length+3:=by simp only[aJ];omega
   have z:(A3 2 (uG N) lJ).a=2:=rfl;rw[z,hlen,aa (by omega)];have h:nA (JS::JT N::c::r) 2=some w:=d;rw[h];show Ee n' (JS::JT N::c::r) w true (A3 2 (uG N) lJ)=_;unfold Ee;rw[aa (λq=>by rcases q.1 with q|q|q;exact k2 q;exact k q;exact m q),aa (λq=>o q.1)];rfl
 rw[e2];exact j ok
theorem Wn (s:SS)(N:Int):cR iz gG s (uG N)=(N,0):=by
 have a:dL (cy s) (uG N)=(uG N,true):=rfl;unfold cR;rw[a];have e2:gG (uG N)=[]:=by rfl
 have b:iz (uG N) []=(N,false,0):=by rfl
 rw[aa (λq=>by cases q)];show (if (iz (uG N) ((gG (uG N)).filterMap (rz s))).2.2≠0 then _ else _)=_;rw[e2];show (if (iz (uG N) []).2.2≠0 then _ else _)=_;rw[b];rfl
theorem PE:∀{s:au},yP s=true->∀i,(s.drop i).take 4≠w4
 |[],_,i=>by rw[List.drop_nil];decide
 |c::r,h,i=>by
  rw[DX]at h;by_cases hl:4<=r.length+1
  .rw[ag hl]at h;by_cases a:(c::r).take 4=w4\/(c::r).take 3=w3
   .rw[ag a]at h;cases h
   rw[aa a]at h;cases i with
   |zero=>exact λq=>a (.inl q)
   |succ i=>exact PE h i
  intro q;have:=bO List.length q;rw[bV,bB,aJ]at this;have this:min 4 (r.length+1-i)=4:=this;omega
theorem PF (s:au)(a:Nat):∀(rest:au) (e:Nat),∃k,(lt.jN s a rest e).1=(s.drop a).take k
 |[],e=>⟨_,rfl⟩
 |c::r,e=>by
  rw[lt.jN];split
  .split
   .exact ⟨0,by simp⟩
   exact PF s a r (e+1)
  exact⟨_,rfl⟩
theorem Ma (s:au):∀(n:Nat) (left:au),∀y∈(lt.gD s n left).1,y.1=1->∃a k,y.2.2.1=(s.drop a).take k
 |0,_,y,hy=>by cases hy
 |n+1,[],y,hy=>by cases hy
 |n+1,c::r,y,hy=>by
  rw[lt.gD]at hy;split at hy
  .exact Ma s n r y hy
  split at hy
  .cases hy
  split at hy
  .rcases bD.1 hy with h|h
   .intro b;rw[h]at b ⊢;unfold lt.fN at b ⊢;split
    .obtain ⟨k,d⟩:=PF s (s.length-(r.length+1)) (s.drop (s.length-(r.length+1))) (s.length-(r.length+1));exact⟨_,k,d⟩
    rename_i q;rw[aa q]at b;split at b
    .exact absurd b (by show ¬(2:Int)=1;decide)
    split at b
    .exact absurd b (by show ¬(3:Int)=1;decide)
    exact absurd b (by show ¬(4:Int)=1;decide)
   exact Ma s n _ y h
  cases hy
theorem abK {s:au}(h:vo s=true)(ok:(lt.gq s).2.1=0):nA (lt.gq s).1 0≠some oQ:=by
 intro q;have i:yP s=true:=by
  unfold vo at h;exact(ak _ _ ▸ h).2
 obtain⟨_,_,e⟩:=LL ok;unfold nA at q;cases b:at? (lt.gq s).1 0 with
 |none=>rw[b]at q;cases q
 |some y =>
  rw[b]at q;have q:(if y.1=1 then some y.2.2.1 else none)=some oQ:=q;by_cases c:y.1=1
  .rw[ag c]at q;have hy:y∈(lt.gD s s.length s).1:=by
    rw[<-e];unfold at? at b;split at b
    .exact bu b
    cases b
   obtain⟨a,k,d⟩:=Ma s s.length s y hy c;have f:y.2.2.1=oQ:=bT q;have g:(s.drop a).take (min 4 k)=w4:=by
    rw[<-oq,<-d,f];rfl
   have j:4<=k:=by
    have:=bO List.length (d.symm.trans f);rw[bV]at this;have this:min k _=5:=this;omega
   rw[show min 4 k=4 by omega]at g;exact PE i a g
  rw[aa c]at q;cases q
theorem abL (P:au){s:au}(h:s≠[]):sl.gh (P++s)=P++sl.gh s:=by
 have b:0<s.length:=dD.2 h;have c:(P++s).length=P.length+s.length:=aA;have c1:∀x:au,0<x.length->dZ x ((x.length:Int)-1) x.length=x.drop (x.length-1):=λx d=>by
  unfold dZ;have a:((x.length:Int)-1).toNat=x.length-1:=by omega
  simp only[a,bf];exact cz (by rw[bB];omega)
 have c2:∀x:au,0<x.length->dZ x 0 ((x.length:Int)-1)=x.take (x.length-1):=λx d=>by
  unfold dZ;have a:((x.length:Int)-1).toNat=x.length-1:=by omega
  simp only[a,show ((0:Int)).toNat=0 from rfl,j3,nH]
 have e:(P++s).drop ((P++s).length-1)=s.drop (s.length-1):=by
  rw[c,show P.length+s.length-1=P.length+(s.length-1) by omega,<-dB,eI]
 unfold sl.gh;rw[gB (by omega),gB (by omega)];show ah _ _ _=P++ah _ _ _;rw[c1 _ (by omega),c1 _ b,e];cases decide (s.drop (s.length-1)=[13]) with
 |false=>rfl
 |true =>
  show dZ (P++s) 0 (((P++s).length:Int)-1)=P++dZ s 0 ((s.length:Int)-1);rw[c2 _ (by omega),c2 _ b,c,pH,show P.length+s.length-1-P.length=s.length-1 by omega,cz (by omega)]
theorem abM:∀{n:Nat},n<=20->(∀c∈fK n,c≠10)/\1<=(fK n).length/\(fK n).length<=2:=λ{n} h=>by
 have:∀n<21,(fK n).all (λc=>c != 10)=true/\1<=(fK n).length/\(fK n).length<=2:=by decide
 obtain⟨a,b⟩:=this n (by omega);exact⟨λc d=>by simpa using aN.1 a c d,b⟩
theorem PG {s:au}(h:∀c∈s,c≠10):l6 s=[sl.gh s]:=by
 rw[tM,HH s h];rfl
theorem Sf {s:au}(b:s≠[])(h:∀c∈s,c≠10){n:Nat}(d:n<=20):l6 (oU n s)=[oU n (sl.gh s)]:=by
 have a:∀c∈oU n s,c≠10:=λc a=>by
  unfold oU at a;rcases cg.1 a with a|a
  .rcases cg.1 a with a|a
   .rcases cg.1 a with a|a
    .exact (by decide:∀c∈Wj,c≠10) c a
    exact(abM d).1 c a
   exact(by decide:∀c∈[(32:UInt8)],c≠10) c a
  exact h c a
 rw[PG a];unfold oU;rw[abL _ b]
theorem JU {s:au}(h:∀c∈s,c≠10)(x:au):∀n:Nat,l6 (uC s n++x)=List.replicate n (sl.gh s)++l6 x
 |0=>rfl
 |n+1=>by
  have e:uC s (n+1)++x=uC s n++(s++10::x):=by rw[uC];simp
  rw[e,JU h _ n,Sb,PG h];show _++([sl.gh s]++l6 x)=_;rw[<-bC,List.replicate_succ']
theorem ahf {r r':LR}(h:zR r=zR r'):r.1=r'.1/\{ r.2 with f:=0 }={ r'.2 with f:=0 }:=⟨bO (·.1) h,bO (·.2) h⟩
theorem abN {x y:RS} (h:({ x with f:=0 }:RS)={ y with f:=0 }):VO x=VO y:=by
 have:=bO VO h;exact this
theorem abO (T:au):∀{n:Nat},n<=20->lt.sV ((fK n++32::T).takeWhile λc=>lt.nQ (cS c)) 6=((n:Int),(6:Int)+((fK n).length:Nat),0,0):=λ{n} h=>by
 have b:∀n<21,lt.sV (fK n) 6=((n:Int),(6:Int)+((fK n).length:Nat),0,0):=by decide
 have e:∀n<21,∀c∈fK n,lt.nQ (cS c)=true:=by decide
 have f:∀l:au,(∀c∈l,lt.nQ (cS c)=true)->((l++32::T).takeWhile λc=>lt.nQ (cS c))=l:=λl=>by
  induction l with
  |nil=>intro _;rfl
  |cons d r g =>
   intro a;rw[cB,fQ,ag (a d (cq ..)),g λc i=>a c (bI _ i)]
 rw[f _ (e n (by omega)),b n (by omega)]
theorem abP {n:Nat}(h:n<=20):∃d r,fK n=d::r/\48<=cS d/\cS d<=57:=by
 have:n=0\/n=1\/n=2\/n=3\/n=4\/n=5\/n=6\/n=7\/n=8\/n=9\/n=10\/n=11\/n=12\/n=13\/n=14\/n=15\/n=16\/n=17\/n=18\/n=19\/n=20:=by omega
 rcases this with rfl|rfl|rfl|rfl|rfl|rfl|rfl|rfl|rfl|rfl|rfl|rfl|rfl|rfl|rfl|rfl|rfl|rfl|rfl|rfl|rfl<;>exact⟨_,_,rfl,by decide,by decide⟩
theorem Wp {w:au}(B:w.length<=900)(ok:(lt.gq w).2.1=0){n:Nat}(b:n<=20):(lt.gq (oU n w)).2.1=0/\zl (lt.gq (oU n w)).1=JS::JT n::zl (lt.gq w).1:=by
 obtain⟨C,k,l⟩:=LL ok;obtain⟨_,D,E⟩:=abM b;obtain⟨d,r,c,d1,d2⟩:=abP b;have m:oU n w=(Wj++fK n++[32])++w++[]:=by unfold oU;rw[dS]
 have e2:oU n w=[]++oQ++32::(fK n++32::w):=by
  unfold oU;rw[show Wj=oQ++[32] from rfl];simp only[bC,cE,cB]
 have q:Wj.length=6:=rfl;have hlen:(oU n w).length=w.length+(fK n).length+3+4:=by unfold oU;simp only[aA,aJ,bK,q];omega
 obtain⟨i,j⟩:=apr (P:=Wj++fK n++[32]) (w:=w) (t:=[]) (.inl rfl) w.length (w.length+(fK n).length+3) w (aG _) (by simp only[bK];omega) (by simp) (.inr rfl);rw[<-m,dS]at i j;have f:lt.gD (oU n w) (oU n w).length (oU n w)=((1,0,oQ,0)::(lt.gD (oU n w) (w.length+(fK n).length+3+3) (32::(fK n++32::w))).1,(lt.gD (oU n w) (w.length+(fK n).length+3+3) (32::(fK n++32::w))).2):=by
  have:=lt.YW (p:=[]) (t:=oQ) (e:=32::(fK n++32::w)) (by rfl) (by show lt.rD (cS 32)=false;decide) (w.length+(fK n).length+3+3);rw[<-e2]at this;rw[hlen];have s:lt.gD (oU n w) (w.length+(fK n).length+3+3+1) (oQ++32::(fK n++32::w))=lt.gD (oU n w) (w.length+(fK n).length+3+4) (oU n w):=bO _ e2.symm;rw[<-s];exact this
 have u:lt.gD (oU n w) (w.length+(fK n).length+3+2) (fK n++32::w)=((2,(n:Int),[],6)::(lt.gD (oU n w) (w.length+(fK n).length+3+1) (32::w)).1,(lt.gD (oU n w) (w.length+(fK n).length+3+1) (32::w)).2):=by
  have g:(oU n w).drop 6=fK n++32::w:=by
   unfold oU;rw[bC,bC];show (Wj++_).drop Wj.length=_;rw[eI];rfl
  have v:(oU n w).length-((r++32::w).length+1)=6:=by
   have:=bO List.length c;simp only[aJ]at this;rw[hlen,aA,aJ];omega
  have x:lt.fN (oU n w) d 6=((2,(n:Int),[],6),(6:Int)+((fK n).length:Nat),0,0):=by
   have a:lt.jq (oU n w) ((6:Nat):Int)=((n:Int),(6:Int)+((fK n).length:Nat),0,0):=by
    rw[lt.Da (d:=d) (r:=r++32::w) (by rw[g,c];rfl),aa (by omega),ag ⟨d1,d2⟩,g,abO w b]
   unfold lt.fN;rw[aa (by unfold lt.kK;rw[aY (by omega)];decide),ag (.inl ⟨d1,d2⟩)];have a:lt.jq (oU n w) 6=((n:Int),(6:Int)+((fK n).length:Nat),0,0):=a;show ((2,(lt.jq (oU n w) 6).1,[],(6:Int)),(lt.jq (oU n w) 6).2)=_;rw[a]
  have y:lt.gD (oU n w) (w.length+(fK n).length+3+2) (fK n++32::w)=lt.gD (oU n w) (w.length+(fK n).length+3+1+1) (d::(r++32::w)):=by rw[c];rfl
  have h:(oU n w).drop ((6:Int)+((fK n).length:Nat)).toNat=32::w:=by
   rw[show ((6:Int)+((fK n).length:Nat)).toNat=6+(fK n).length by omega,<-dB,g,eI]
  rw[y,lt.gD,aa (by omega),aa (by omega),v,x,ag rfl];simp only[h]
 have z:lt.gD (oU n w) (w.length+(fK n).length+3+3) (32::(fK n++32::w))=lt.gD (oU n w) (w.length+(fK n).length+3+2) (fK n++32::w):=lt.I9 _ _ _;have A:lt.gD (oU n w) (w.length+(fK n).length+3+1) (32::w)=lt.gD (oU n w) (w.length+(fK n).length+3) w:=lt.I9 _ _ _;rw[z,u,A]at f;have o:(lt.gD (oU n w) (oU n w).length (oU n w)).2.1=0:=by rw[f];exact i.trans k
 rw[TL (by omega) o];refine⟨rfl,?_⟩;show zl (lt.gD (oU n w) (oU n w).length (oU n w)).1=_;rw[f,l,<-j];rfl
theorem afR {s:au}(d:(di s).2.1=0)(a:qO (di s).1.aC):(lt.gq s).2.1=0/\(gM s.length (lt.gq s).1 lJ).1=true/\(di s).1=(gM s.length (lt.gq s).1 lJ).2:=by
 have no:¬qO lJ.aC:=by unfold qO;decide
 unfold di at d a ⊢;by_cases b:(lt.gq s).2.1≠0
 .rw[ag b]at a;exact absurd a no
 rw[aa b]at d a ⊢;by_cases c:(gM s.length (lt.gq s).1 lJ).1=true
 .rw[ag c];exact⟨cD.1 b,c,rfl⟩
 rw[aa c]at a;exact absurd a no
theorem Up {s:au}(h:(lt.gq s).2.1=0)(ok:(gM s.length (lt.gq s).1 lJ).1=true):di s=((gM s.length (lt.gq s).1 lJ).2,0,0):=by
 unfold di;rw[aa (λq=>q h),ag ok]
theorem Sg {s:au}{n:Nat}(h:n<=20)(i:vo s=true)(hlen:s.length<=200)(j:(di s).2.1=0)(a:(di s).1.lab=[])(b:qO (di s).1.aC) :
 (di (sl.gh s)).2.1=0/\VO (di (sl.gh s)).1=VO (di s).1/\(di (oU n (sl.gh s))).2.1=0/\VO (di (oU n (sl.gh s))).1={ VO (di s).1 with ai:=uG n } /\
 (di s).1.ai=[]/\(0<(di s).1.sz\/(di s).1.aC≠2):=by
 obtain⟨r1,d,k⟩:=afR j b;obtain⟨f,g⟩:=aab r1;have v:(sl.gh s).length<=200:=by
  rcases TM s with e|e
  .rw[e];omega
  have:=bO List.length e;rw[aA]at this;omega
 rw[k]at a b ⊢;obtain⟨q1,q2⟩:=ahf (Jy (n:=((sl.gh s).length:Int)) (n':=(s.length:Int)) g lJ);have a1:=Up f (q1.trans d);obtain⟨g1,m⟩:=Wp (w:=sl.gh s) (by omega) f h;have c:=OI s;obtain⟨⟨o,k2⟩,p,q⟩:=Se (n:=(s.length:Int)) (n':=((oU n (sl.gh s)).length:Int)) (l:=(lt.gq s).1) (N:=n) c Z8 (abK i r1) d a b;have r:zl (lt.gq (oU n (sl.gh s))).1=zl (JS::JT n::(lt.gq s).1):=by
  rw[m,g];rfl
 obtain⟨t,u⟩:=ahf (Jy (n:=((oU n (sl.gh s)).length:Int)) (n':=((oU n (sl.gh s)).length:Int)) r lJ);have a2:=Up g1 (t.trans o);rw[a1,a2];refine⟨rfl,abN q2,rfl,?_,p,q⟩;exact(abN u).trans k2
def Uq (v:au):RS×Int×Int:=(VO (di v).1,(di v).2)
theorem we:∀(l:cA) (s:SS),dR iz gG nW Uq l s=dR iz gG nW di l s
 |[],s=>rfl
 |w::l,s=>by
  rw[kg,kg];have e:∀t,jd iz gG nW t (Uq w).1=jd iz gG nW t (di w).1:=λt=>rfl
  have e2:(Uq w).2=(di w).2:=rfl;rw[e,e2,we l]
theorem PJ:di []=(lJ,0,0):=by rfl
theorem abQ:HI:=by
 intro s n i v hlen x b e c;obtain⟨a1,a2,y,z,D,E⟩:=Sg i v hlen x b e;have h:s≠[]:=λq=>by
  rw[q]at e;exact absurd e (by show ¬qO 0;unfold qO;decide)
 have L1:=Sf h c i;have L2:=JU c [] n;rw[dS]at L2;have L2:l6 (uC s n)=List.replicate n (sl.gh s)++[[]]:=L2;have j:(Uq (sl.gh s)).2.1=0:=a1;have f:(Uq (sl.gh s)).1=VO (di s).1:=a2;have k:Plain kf (Uq (sl.gh s)).1:=by rw[f];exact⟨b,e,rfl⟩
 have l:(Uq (sl.gh s)).1.ai=[]:=by rw[f];exact D
 have m:0<(Uq (sl.gh s)).1.sz\/(Uq (sl.gh s)).1.aC≠2:=by rw[f];exact E
 have o:uG n≠[]:=λq=>by cases q
 have p:(Uq (oU n (sl.gh s))).2.1=0/\(Uq (oU n (sl.gh s))).1={ (Uq (sl.gh s)).1 with ai:=uG n }:=⟨y,by rw[f];exact z⟩;have r:∀t,Ag kf t->cR iz gG t (uG n)=((n:Int),0):=λt _=>Wn t n
 have a:=OO iz gG nW Uq j k l m o p r;have g:=OQ iz gG nW Uq j k l m o p r;rw[we,we]at a;rw[we,we]at g;obtain⟨b1,b2⟩:=RC iz gG nW di (w:=[]) (by rw[PJ]) (by rw[PJ];exact Wk) (List.replicate n (sl.gh s));unfold oy;rw[L1,L2];unfold zF;generalize hA:dR iz gG nW di [oU n (sl.gh s)] kf=A at a g ⊢;generalize M:dR iz gG nW di (List.replicate n (sl.gh s)) kf=B at a g b1 b2;generalize N:dR iz gG nW di (List.replicate n (sl.gh s)++[[]]) kf=C at b1 b2 ⊢
 by_cases d:A.2=0
 .obtain ⟨u,k2,F,G,H,I,J,k8⟩:=g d;have c2:=b2 u;have c1:C.2=0:=b1.trans u;have K:¬A.1.opn=true:=by rw[J];decide
  have L:¬C.1.opn=true:=by rw[c2];show ¬B.1.opn=true;rw[k8];decide
  rw[aa (λq=>q d),aa K,aa (λq=>q c1),aa L];refine⟨λq=>absurd rfl q,λ_=>⟨rfl,?_,?_,?_⟩⟩
  .show A.1.gu=C.1.gu;rw[c2,H];exact I.symm
  .show A.1.aK=C.1.aK;rw[c2,F];exact G.symm
  show A.1.ax=C.1.ax.map PD;rw[c2];exact k2
 rw[ag d];refine⟨λ_=>?_,λq=>absurd q d⟩;rcases a with a|a
 .left
  have:C.2≠0:=by rw[b1,<-a];exact d
  rw[ag this];show C.2=A.2;rw[b1,a]
 exact .inr a
end
end Go.Proofs.YtbeckacfibledaaGreatDoor.ps.sr
