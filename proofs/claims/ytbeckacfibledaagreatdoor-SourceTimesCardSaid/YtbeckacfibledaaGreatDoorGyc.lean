/- Expressions behind other tokens: parsed as they are. -/
import Derived.Test.YtbeckacfibledaaGreatDoorGrg
set_option linter.unusedVariables false
set_option linter.unusedSimpArgs false

namespace Go.Proofs.YtbeckacfibledaaGreatDoor.ps.sr
open Go.Tv Go.Ev Go.Px Go.Pp Go.Proofs.YtbeckacfibledaaGreatDoor.ex
set_option maxRecDepth 100000
noncomputable section
def zf (k g:Int)(s:St):St:={ s with a:=s.a+k,f:=g }
def shF (k:Int)(s:St):St:={ s with a:=s.a+k,f:=s.f+k }
def Rf (k g:Int)(r r':l7):Prop:=∀b st,r=some (b,st)->r'=some (b,if b=true then zf k g st else shF k st)/\(b=true->0<=st.a)
theorem ur {α:Type}(p l:List α){a:Int}(h:0<=a):at? (p++l) (a+p.length)=at? l a:=by
 obtain⟨n,rfl⟩:∃n:Nat,a=n:=⟨a.toNat,by omega⟩;show at? (p++l) ((n:Int)+(p.length:Int))=at? l (n:Int);rw[<-Int.natCast_add];show (p++l)[n+p.length]? = l[n]?;rw[mO (by omega)];congr 1
 omega
theorem LM (k g:Int)(r':l7):Rf k g none r':=λb st h=>by cases h
theorem zg {k g:Int}{st:St}{e f:Int}:Rf k g (ym st e f) (ym (zf k g st) e (f+k)):=λb s a=>by
 cases a;exact⟨rfl,λh=>by cases h⟩
theorem agO {k g:Int}{st:St}(h:0<=st.a):Rf k g (some (true,st)) (some (true,zf k g st)):=λb s c=>by
 cases c;exact⟨rfl,λ_=>h⟩
def Kf (k g:Int)(K b:St->l7):Prop:=∀st,0<=st.a->Rf k g (K st) (b (zf k g st))
theorem LO {k g:Int}{st:St}{n:Nd}{f:Int}{K b:St->l7}(h:0<=st.a)(c:Kf k g K b):Rf k g (rE st n f K) (rE (zf k g st) n (f+k) b):=by
 unfold rE;show Rf k g (if st.x.length=200 then _ else _) (if st.x.length=200 then _ else _);split
 .exact zg
 exact c { st with x:=st.x++[n] } h
theorem TN {k g:Int}{st:St}{K b:St->l7}(h:0<=st.a)(c:Kf k g K b):Rf k g (ri st K) (ri (zf k g st) b):=by
 unfold ri;show Rf k g (if st.d=50 then _ else _) (if st.d=50 then _ else _);split
 .exact zg
 have:=c { st with d:=st.d+1,a:=st.a+1 } (by show 0<=st.a+1;omega);have e:zf k g { st with d:=st.d+1,a:=st.a+1 }={ zf k g st with d:=(zf k g st).d+1,a:=(zf k g st).a+1 }:=by
  unfold zf;show Px.St.mk _ _ _ _ _=Px.St.mk _ _ _ _ _;congr 1
  show st.a+1+k=st.a+k+1;omega
 rw[e]at this;exact this
theorem aac {k g:Int}{r r':l7}{K a:St->l7}(c:Rf k g r r')(d:Kf k g K a):Rf k g (Le r K) (Le r' a):=by
 unfold Le;cases r with
 |none=>exact LM _ _ _
 |some q =>
  obtain⟨b,st⟩:=q;obtain⟨e,f⟩:=c b st rfl;rw[e];cases b with
  |true=>exact d st (f rfl)
  |false=>exact λb s i=>by cases i;exact⟨rfl,λh=>by cases h⟩
section
variable {p l:aX} {g:Int}
theorem aed {rec b:Int->St->l7}(c:∀s st,0<=st.a->Rf p.length g (rec s st) (b s (zf p.length g st))){K j:St->l7}(i:Kf p.length g K j){st:St}(h:0<=st.a) :
 Rf p.length g (ou bZ l rec st K) (ou bZ (p++l) b (zf p.length g st) j):=by
 unfold ou;have e:at? (p++l) (zf p.length g st).a=at? l st.a:=ur p l h;rw[e];have up:∀s:St,0<=s.a->Rf p.length g (K { s with d:=s.d-1 }) (j { zf p.length g s with d:=(zf p.length g s).d-1 }):=λs f=>i { s with d:=s.d-1 } f
 split
 .exact zg
 rename_i t q;split
 .have e2:{ zf (p.length:Int) g st with a:=(zf (p.length:Int) g st).a+1 }=zf p.length g { st with a:=st.a+1 }:=by
   unfold zf;show Px.St.mk _ _ _ _ _=Px.St.mk _ _ _ _ _;congr 1
   show st.a+p.length+1=st.a+1+p.length;omega
  rw[e2];exact LO (by show 0<=st.a+1;omega) i
 split
 .refine TN h λm k=>aac (c _ _ k) λs f=>?_
  split
  .exact up s f
  exact LO (st:={ s with d:=s.d-1 }) f i
 split
 .refine TN h λm k=>aac (c _ _ k) λs f=>?_
  have n:at? (p++l) (zf p.length g s).a=at? l s.a:=ur p l f;rw[n];split
  .exact zg
  split
  .have o:{ zf (p.length:Int) g s with d:=(zf (p.length:Int) g s).d-1,a:=(zf (p.length:Int) g s).a+1 }=zf p.length g { s with d:=s.d-1,a:=s.a+1 }:=by
    unfold zf;show Px.St.mk _ _ _ _ _=Px.St.mk _ _ _ _ _;congr 1
    show s.a+p.length+1=s.a+1+p.length;omega
   rw[o];exact i { s with d:=s.d-1,a:=s.a+1 } (by show 0<=s.a+1;omega)
  exact zg
 exact zg
theorem TP {rec b:Int->St->l7}(c:∀s st,0<=st.a->Rf p.length g (rec s st) (b s (zf p.length g st)))(str:Int):∀(n m:Nat),n<=m->Kf p.length g (jQ l rec str n) (jQ (p++l) b str m)
 |0,_,_=>λst h=>LM _ _ _
 |n+1,m,i=>λst h=>by
  obtain⟨m,rfl⟩:∃d,m=d+1:=⟨m-1,by omega⟩;unfold jQ;have e:at? (p++l) (zf p.length g st).a=at? l st.a:=ur p l h;rw[e];split
  .exact agO h
  split
  .exact agO h
  have e2:{ zf (p.length:Int) g st with a:=(zf (p.length:Int) g st).a+1 }=zf p.length g { st with a:=st.a+1 }:=by
   unfold zf;show Px.St.mk _ _ _ _ _=Px.St.mk _ _ _ _ _;congr 1
   show st.a+p.length+1=st.a+1+p.length;omega
  rw[e2];refine aac (c _ _ (by show 0<=st.a+1;omega)) λs f=>?_
  exact LO f (TP c str n m (by omega))
theorem He:∀(k m:Nat),k<=m->∀(str:Int) (st:St),0<=st.a->Rf p.length g (ef bZ l k str st) (ef bZ (p++l) m str (zf p.length g st))
 |0,_,_,_,_,_=>LM _ _ _
 |k+1,m,c,str,st,h=>by
  obtain⟨m,rfl⟩:∃b,m=b+1:=⟨m-1,by omega⟩;unfold ef;exact aed (He k m (by omega)) (TP (He k m (by omega)) str _ _ (by simp)) h
theorem OS {a:Int}(h:0<=a):(∃x e,bp l a=(x,e,0,0)/\bp (p++l) (a+p.length)=(x,e+p.length,0,0)/\0<=e)\/∃e f m,bp l a=([],0,e,f)/\bp (p++l) (a+p.length)=([],0,e,m):=by
 obtain⟨r,d⟩:=rQ (nm:=bZ) l a;obtain⟨r',c⟩:=rQ (nm:=bZ) (p++l) (a+p.length);have n:bp l a=r:=by unfold bp;rw[d];rfl
 have e2:bp (p++l) (a+p.length)=r':=by unfold bp;rw[c];rfl
 rw[n,e2];unfold oa at d c;have hlen:((p++l).length:Int)=p.length+l.length:=by simp
 by_cases j:a<0\/(l.length:Int)<a
 .rw[ag j]at d;rw[ag (by rw[hlen];omega)]at c;cases d;cases c;exact .inr ⟨2,0,0,rfl,rfl⟩
 rw[aa j]at d;rw[aa (by rw[hlen];omega)]at c;have k:=He (p:=p) (l:=l) (g:=0) (l.length+1) ((p++l).length+1) (by simp) 1 ⟨a,0,[],0,0⟩ h;have es:zf (p.length:Int) 0 ⟨a,0,[],0,0⟩=⟨a+p.length,0,[],0,0⟩:=rfl;rw[es]at k;cases i:ef bZ l (l.length+1) 1 ⟨a,0,[],0,0⟩ with
 |none=>rw[i]at d;cases d
 |some q =>
  obtain⟨b,st⟩:=q;obtain⟨o,k2⟩:=k b st i;rw[i]at d;rw[o]at c;cases b with
  |true=>cases d;cases c;exact .inl ⟨_,_,rfl,rfl,k2 rfl⟩
  |false=>cases d;cases c;exact .inr ⟨_,_,_,rfl,rfl⟩
end
end
end Go.Proofs.YtbeckacfibledaaGreatDoor.ps.sr
namespace Go.Proofs.YtbeckacfibledaaGreatDoor.ps.sr
open Go.Tv Go.Ev Go.Px Go.Pp Go.Proofs.YtbeckacfibledaaGreatDoor.ex
set_option maxRecDepth 100000
noncomputable section
section
variable {p l:aX}
theorem uV {a:Int}(h:0<=a)(w:au):dK (p++l) (a+p.length) w=dK l a w:=by
 unfold dK;rw[ur p l h]
theorem LP {a:Int}(h:0<=a):(p++l).drop (a+p.length).toNat=l.drop a.toNat:=by
 have e:(a+p.length).toNat=p.length+a.toNat:=by omega
 rw[e,List.drop_append];have:p.length+a.toNat-p.length=a.toNat:=by omega
 rw[this,gO (by omega)];rfl
theorem OT {a e:Int}(h:0<=a)(b:0<=e):((p++l).take (e+p.length).toNat).drop (a+p.length).toNat=(l.take e.toNat).drop a.toNat:=by
 rw[lM,lM,LP h];congr 1
 omega
theorem akg {a b:Int}(h:0<=a)(c:0<=b):Df (p++l) (a+p.length) (b+p.length)=Df l a b:=by
 unfold Df;rw[LP h];congr 1
 omega
theorem zh (k:Int):∀(r:aX) (a d:Int),lZ r (a+k) d=(lZ r a d).map (· + k)
 |[],_,_=>rfl
 |t::r,a,d=>by
  have e:a+k+1=a+1+k:=by omega
  rw[lZ,lZ,e,zh k r,zh k r,zh k r];split
  .rfl
  split
  .rfl
  split<;>rfl
theorem aad {a:Int}(h:0<=a):jU (p++l) (a+p.length)=(jU l a).map (· + (p.length:Int)):=by
 unfold jU;rw[LP h,zh]
theorem Ca (k e:Int):∀(r:aX) (t:Tok) (a d:Int),pq (e+k) t r (a+k) d=pq e t r a d+k
 |[],_,_,_=>rfl
 |u::r,t,a,d=>by
  have b:a+k+1=a+1+k:=by omega
  rw[pq,pq,b,Ca k e r,Ca k e r,Ca k e r];split
  .rfl
  split
  .rfl
  split<;>rfl
theorem aee {a e:Int}(h:1<=a)(b:0<=e):eP (p++l) (a+p.length) (e+p.length)=eP l a e+p.length:=by
 unfold eP;have c:a+p.length-1=a-1+p.length:=by omega
 rw[c,ur p l (show 0<=a-1 by omega),OT (by omega) b,Ca]
def eqO (r r':qa):Prop:=r'.1=r.1/\r'.2.1=r.2.1/\r'.2.2.2=r.2.2.2
theorem eqO.rfl' (r:qa):eqO r r:=⟨rfl,rfl,rfl⟩
theorem aae (sg:au)(r:Rg)(a b:Int)(s:TS):eqO (kL sg r a s) (kL sg r b s):=by
 unfold kL;split
 .exact ⟨rfl,rfl,rfl⟩
 split
 .exact ⟨rfl,rfl,rfl⟩
 split<;>exact⟨rfl,rfl,rfl⟩
theorem VN (sg:au)(r:Rg)(a b n m c:Int)(s:TS):eqO (gY sg r a n c s) (gY sg r b m c s):=by
 unfold gY;split
 .exact ⟨rfl,rfl,rfl⟩
 split<;>exact⟨rfl,rfl,rfl⟩
theorem aaf {a b:Int}(h:0<=a)(c:0<=b)(sg:au)(s:TS):eqO (od l sg a b s) (od (p++l) sg (a+p.length) (b+p.length) s):=by
 unfold od;rw[akg h c];exact⟨rfl,rfl,rfl⟩
theorem akh {a b:Int}(h:0<=a)(c:0<=b)(sg:au)(s:TS):eqO (lH rp l sg a b s) (lH rp (p++l) sg (a+p.length) (b+p.length) s):=by
 have d:=aaf (p:=p) (l:=l) h c sg s;have e:b+(p.length:Int)-(a+p.length)=b-a:=by omega
 have e2:a+(p.length:Int)+1=a+1+p.length:=by omega
 have f:a+(p.length:Int)+2=a+2+p.length:=by omega
 unfold lH;rw[e,e2,f,ur p l h,ur p l (show 0<=a+2 by omega),uV (show 0<=a+1 by omega)];repeat' split
 all_goals first|exact d|exact aae _ _ _ _ _|exact VN _ _ _ _ _ _ _ _|exact⟨rfl,rfl,rfl⟩
end
end
end Go.Proofs.YtbeckacfibledaaGreatDoor.ps.sr
namespace Go.Proofs.YtbeckacfibledaaGreatDoor.ps.sr
open Go.Tv Go.Ev Go.Px Go.Pp Go.Proofs.YtbeckacfibledaaGreatDoor.ex
set_option maxRecDepth 100000
noncomputable section
section
variable {p l:aX}
theorem RF {e:Int}(u:e<l.length):∀(n m:Nat) (sg:au) (a:Int) (s:TS),n<=m->1<=a->a<=e->e-a<n ->
 ∃o d,Pp.n9 rp l e n sg a s=some o/\Pp.n9 rp (p++l) (e+p.length) m sg (a+p.length) s=some d/\eqO o d
 |0,_,_,_,_=>λ_ _ g h=>by omega
 |n+1,m,sg,a,s=>λC g h D=>by
  obtain⟨m,rfl⟩:∃v,m=v+1:=⟨m-1,by omega⟩;obtain⟨b1,b2⟩:=yz (l:=l) (a:=a) (e:=e) (by omega) h (by omega);have c:=akh (p:=p) (l:=l) (a:=a) (b:=eP l a e) (by omega) (by omega) sg s;have es:=aee (p:=p) (l:=l) g (show 0<=e by omega);unfold Pp.n9;rw[es];generalize E:lH rp l sg a (eP l a e) s=q at c;generalize w:lH rp (p++l) sg (a+p.length) (eP l a e+p.length) s=y at c;obtain⟨b,x,f,F⟩:=q;obtain⟨z,G,H,A⟩:=y;obtain⟨j,k2,k⟩:=c;simp only at j k2 k;subst j;subst k2;subst k
  cases z with
  |false=>exact⟨_,_,rfl,rfl,⟨rfl,rfl,rfl⟩⟩
  |true =>
   simp only;by_cases r:eP l a e=e
   .rw[ag r,ag (by omega)];exact⟨_,_,rfl,rfl,.rfl' _⟩
   rw[aa r,aa (by omega),ur p l (show 0<=eP l a e by omega)];obtain⟨t,B⟩:=tq (l:=l) (i:=eP l a e) (by omega) (by omega);rw[B];have e2:eP l a e+(p.length:Int)+1=eP l a e+1+p.length:=by omega
   simp only[e2];exact RF u n m _ _ _ (by omega) (by omega) (by omega) (by omega)
theorem aef {op en:Int}{s:TS}(q:0<=op)(g:op+1<=en)(e:en<l.length)(i:dK l en [93]=true):eqO (lB l op en s) (lB (p++l) (op+p.length) (en+p.length) s):=by
 obtain⟨ce,a,j⟩:=jV i;have k:op+(p.length:Int)+1=op+1+p.length:=by omega
 have e2:op+(p.length:Int)+2=op+2+p.length:=by omega
 have hlen:l.length+1<=(p++l).length+1:=by simp
 unfold lB;rw[k,e2,uV (show 0<=op+1 by omega),uV (show 0<=op+1 by omega),ur p l (show 0<=op+1 by omega)];split
 .rename_i b;have:op+2<=en:=by
   by_cases m:en=op+1
   .exfalso;rw[m]at a;rcases b with h|h<;>(obtain⟨c2,f,k2⟩:=jV h;rw[a]at f;cases f;rw[Dh j (by decide)]at k2;cases k2)
   omega
  obtain⟨o,n,g1,c,d⟩:=RF (p:=p) e (l.length+1) ((p++l).length+1) ((at? l (op+1)).getD Ea).2.2.1 (op+2) s hlen (by omega) this (by omega);rw[g1,c];exact d
 obtain⟨o,n,g1,c,d⟩:=RF (p:=p) e (l.length+1) ((p++l).length+1) [43] (op+1) s hlen (by omega) g (by omega);rw[g1,c];exact d
def eqP (k:Int)(r r':Wx):Prop:=r'.1=r.1/\r'.2.2.1=r.2.2.1/\(r.2.2.1=0->r'.2.1=r.2.1+k)
theorem oS {k e f a:Int}(h:e≠0):eqP k (kB e f) (kB e a):=⟨rfl,rfl,λq=>absurd q h⟩
end
end
end Go.Proofs.YtbeckacfibledaaGreatDoor.ps.sr
namespace Go.Proofs.YtbeckacfibledaaGreatDoor.ps.sr
open Go.Tv Go.Ev Go.Px Go.Pp Go.Proofs.YtbeckacfibledaaGreatDoor.ex
set_option maxRecDepth 100000
noncomputable section
section
variable {p l:aX}
theorem OU (p:aX){l:aX}{a:Int}(h:0<=a):(bp (p++l) (a+p.length)).1=(bp l a).1/\(bp (p++l) (a+p.length)).2.2.1=(bp l a).2.2.1/\((bp l a).2.2.1=0->(bp (p++l) (a+p.length)).2.1=(bp l a).2.1+p.length):=by
 rcases OS (p:=p) (l:=l) h with⟨x,e,b,c,g⟩|⟨e,f,i,b,c⟩
 .rw[b,c];exact⟨rfl,rfl,λ_=>rfl⟩
 refine⟨by rw[b,c],by rw[b,c],λd=>?_⟩;have:=(qM d).1;rw[b]at this;have this:a<0:=this;omega
theorem aki {op en sz:Int}(k:l.length<=200000)(d:0<=op)(e:op+1<=en)(g:en<l.length)(h:dK l en [93]=true):eqP p.length (xz l op en sz (lB l op en Jn)) (xz (p++l) (op+p.length) (en+p.length) sz (lB (p++l) (op+p.length) (en+p.length) Jn)):=by
 have a:=aef (p:=p) (s:=Jn) d e g h;have c:=Oz (s:=Jn) k rfl d e g h;generalize lB l op en Jn=o at a c;generalize lB (p++l) (op+p.length) (en+p.length) Jn=m at a;obtain⟨b,x,f,s⟩:=o;obtain⟨r,t,u,v⟩:=m;obtain⟨i,k2,j⟩:=a;simp only at i k2 j c;subst i;subst k2;subst j;unfold xz;simp only;split
 .rename_i n;exact oS (c n)
 split
 .split
  .exact ⟨rfl,rfl,λ_=>by show en+(p.length:Int)+1=en+1+p.length;omega⟩
  exact oS (by decide)
 split
 .rename_i q;exact oS q
 split
 .exact oS (by decide)
 split
 .exact ⟨rfl,rfl,λ_=>by show en+(p.length:Int)+1=en+1+p.length;omega⟩
 exact oS (by decide)
theorem OV {op sz:Int}(c:l.length<=200000)(d:0<=op)(h:op<l.length):eqP p.length (l5 l op sz) (l5 (p++l) (op+p.length) sz):=by
 have e:op+(p.length:Int)+1=op+1+p.length:=by omega
 have e2:op+(p.length:Int)+2=op+2+p.length:=by omega
 obtain⟨q1,q2,q3⟩:=OU p (l:=l) (a:=op+2) (by omega);unfold l5;rw[e,e2,ur p l (show 0<=op+1 by omega),q2,aad (show 0<=op+1 by omega)];split
 .by_cases b:(bp l (op+2)).2.2.1≠0
  .rw[ag b,ag b];exact oS b
  rw[aa b,aa b];have b:=cD.1 b;have hi:=(qM b).1;rw[q3 b,uV (by omega)];split
  .refine ⟨?_,rfl,λ_=>?_⟩
   .unfold ajt;rw[q1]
   show (bp (p++l) (op+2+p.length)).2.1+1=(bp l (op+2)).2.1+1+p.length;rw[q3 b];omega
  exact oS (by decide)
 cases f:jU l (op+1) with
 |none=>exact oS (by decide)
 |some en =>
  obtain⟨c1,c2,g⟩:=zc (by omega) (by omega) f;exact aki c d c1 c2 g
theorem aag {a:Int}(h:0<=a):eqP p.length (AO (bp l a)) (AO (bp (p++l) (a+p.length))):=by
 obtain⟨q1,q2,q3⟩:=OU p (l:=l) h;unfold AO;rw[q2];split
 .rename_i b;exact oS b
 rename_i b;exact⟨by rw[q1],rfl,λ_=>q3 (cD.1 b)⟩
theorem RG {a:Int}(e:l.length<=200000)(h:0<=a):eqP p.length (bE l a) (bE (p++l) (a+p.length)):=by
 have hlen:((p++l).length:Int)=p.length+l.length:=by simp
 have g:a+(p.length:Int)+1=a+1+p.length:=by omega
 unfold bE;rw[g,uV (show 0<=a+1 by omega),uV h,ur p l h];by_cases f:a<0\/(l.length:Int)<a
 .have b:a+(p.length:Int)<0\/((p++l).length:Int)<a+p.length:=by rw[hlen];omega
  rw[ag f,ag b];exact oS (by decide)
 have b:¬(a+(p.length:Int)<0\/((p++l).length:Int)<a+p.length):=by rw[hlen];omega
 rw[aa f,aa b];cases i:at? l a with
 |none=>exact aag h
 |some t =>
  have d:=(jR i).2;simp only;split
  .rename_i r _;exact⟨rfl,rfl,λ_=>by show a+(p.length:Int)+1=a+1+p.length;omega⟩
  split
  .split
   .rename_i j;obtain⟨c,k,_⟩:=jV j;exact OV e (by omega) (jR k).2
   exact oS (by decide)
  split
  .exact OV e h d
  exact aag h
end
end
end Go.Proofs.YtbeckacfibledaaGreatDoor.ps.sr
namespace Go.Proofs.YtbeckacfibledaaGreatDoor.ps.sr
open Go.Tv Go.Ev Go.Px Go.Pp Go.Proofs.YtbeckacfibledaaGreatDoor.ex
set_option maxRecDepth 100000
noncomputable section
section
variable {p l:aX}
def eqC (r r':H7):Prop:=r'.1=r.1/\r'.2.1=r.2.1/\r'.2.2.1=r.2.2.1/\r'.2.2.2.1=r.2.2.2.1
theorem agQ (f:l.length<=200000)(op aM:Int):∀(n:Nat) (a:Int) (args:eO),0<=a->(Ed l op aM n a args=none/\Ed (p++l) op aM n (a+p.length) args=none)\/∃c g,Ed l op aM n a args=some c/\Ed (p++l) op aM n (a+p.length) args=some g/\eqC c g
 |0,_,_,_=>.inl ⟨rfl,rfl⟩
 |n+1,a,args,h=>by
  obtain⟨q1,q2,q3⟩:=RG (p:=p) f h;have hlen:((p++l).length:Int)=p.length+l.length:=by simp
  unfold Ed;rw[q2,q1];by_cases b:(bE l a).2.2.1≠0
  .rw[ag b,ag b];exact .inr ⟨_,_,rfl,rfl,rfl,rfl,rfl,rfl⟩
  rw[aa b,aa b];have b:=cD.1 b;obtain⟨_,j,k⟩:=yA f b;rw[q3 b];by_cases i:(bE l a).2.1=(l.length:Int)
  .have d:(bE l a).2.1+(p.length:Int)=((p++l).length:Int):=by rw[hlen];omega
   rw[ag i,ag d];exact .inr ⟨_,_,rfl,rfl,rfl,rfl,rfl,rfl⟩
  have d:¬(bE l a).2.1+(p.length:Int)=((p++l).length:Int):=by rw[hlen];omega
  rw[aa i,aa d,uV (by omega)];split
  .exact .inr ⟨_,_,rfl,rfl,rfl,rfl,rfl,rfl⟩
  split
  .exact .inr ⟨_,_,rfl,rfl,rfl,rfl,rfl,rfl⟩
  have e:(bE l a).2.1+(p.length:Int)+1=(bE l a).2.1+1+p.length:=by omega
  rw[e];exact agQ f op aM n _ _ (by omega)
theorem RH (j:l.length<=200000){a:Int}(h:0<=a):eqC (dY l a) (dY (p++l) (a+p.length)):=by
 have hlen:((p++l).length:Int)=p.length+l.length:=by simp
 have k:a+(p.length:Int)+1=a+1+p.length:=by omega
 have e2:a+(p.length:Int)+2=a+2+p.length:=by omega
 have m:Eb (p++l) (a+p.length)=Eb l a:=by unfold Eb;rw[ur p l h]
 have n:lI (p++l) (a+p.length)=lI l a:=by unfold lI;rw[k,ur p l (show 0<=a+1 by omega)]
 unfold dY;rw[m,n];by_cases g:a<0\/(l.length:Int)<a
 .have d:a+(p.length:Int)<0\/((p++l).length:Int)<a+p.length:=by rw[hlen];omega
  rw[ag g,ag d];exact⟨rfl,rfl,rfl,rfl⟩
 have d:¬(a+(p.length:Int)<0\/((p++l).length:Int)<a+p.length):=by rw[hlen];omega
 rw[aa g,aa d];split
 .exact ⟨rfl,rfl,rfl,rfl⟩
 unfold Oy;have o:(if lI l a=0 then a+(p.length:Int)+1 else a+(p.length:Int)+2)=(if lI l a=0 then a+1 else a+2)+p.length:=by split<;>omega
 rw[o];have f:0<=(if lI l a=0 then a+1 else a+2):=by split<;>omega
 generalize (if lI l a=0 then a+1 else a+2)=b at f;by_cases i:b=(l.length:Int)
 .have e:b+(p.length:Int)=((p++l).length:Int):=by rw[hlen];omega
  rw[ag i,ag e];exact⟨rfl,rfl,rfl,rfl⟩
 have e:¬b+(p.length:Int)=((p++l).length:Int):=by rw[hlen];omega
 rw[aa i,aa e];rcases agQ (p:=p) j (Eb l a).1 (lI l a) 5 b [] f with⟨c1,c2⟩|⟨c,r,c1,c2,q⟩
 .rw[c1,c2];exact⟨rfl,rfl,rfl,rfl⟩
 rw[c1,c2];exact q
end
end
end Go.Proofs.YtbeckacfibledaaGreatDoor.ps.sr
