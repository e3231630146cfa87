/- Numbers in a row: what their line says. -/
import Derived.Test.YtpaddkkfefgkfaaGreatDoorNa
set_option linter.unusedVariables false
set_option linter.unusedSimpArgs false
namespace Go.Proofs.YtpaddkkfefgkfaaGreatDoor.ps
open Go.Tv Go.Ev Go.Px Go.Pp Go.Proofs.YtpaddkkfefgkfaaGreatDoor.ex
set_option maxRecDepth 100000
noncomputable section
def eo:List UInt8:=[104,101,114,101]
def jJ (lab:Bool) (w:List UInt8):List UInt8:=(if lab=true then eo++[58,32] else [])++w
def jK (lab:Bool) (w:List UInt8):List Tok:=(if lab=true then [(1,0,eo,0),(4,0,[58],0)] else [])++[(1,0,w,0)]
def cP (n:Int) (L:List Int):List UInt8:=32::(fR n++eX L)
def gG (n:Int) (L:List Int):List Tok:=js n++kG L
theorem EC {w:List UInt8} (h:w∈oq):lt.ax w=true:=by
 unfold oq at h
 simp only[List.mem_cons,List.not_mem_nil,or_false] at h
 rcases h with rfl|rfl|rfl|rfl<;>decide
theorem Cr {w:List UInt8} (h:w∈oq):w.length=2:=by
 unfold oq at h
 simp only[List.mem_cons,List.not_mem_nil,or_false] at h
 rcases h with rfl|rfl|rfl|rfl<;>rfl
theorem Vc (lab:Bool) {w:List UInt8} (hw:w∈oq) {n:Int} {L:List Int} (hn:jt n) (hL:∀x∈L,jt x) (hlen:(jJ lab w++cP n L).length<=1000) :
 (lt.aG (jJ lab w++cP n L)).2=(0,0)/\zl (lt.aG (jJ lab w++cP n L)).1=jK lab w++gG n L:=by
 have hwl:=Cr hw
 have key:(lt.bh (jJ lab w++cP n L) (jJ lab w++cP n L).length (jJ lab w++cP n L)).2=(0,0)/\zl (lt.bh (jJ lab w++cP n L) (jJ lab w++cP n L).length (jJ lab w++cP n L)).1=jK lab w++gG n L:=by
  cases lab with
  |
   false =>
   show (lt.bh (w++cP n L) (w++cP n L).length (w++cP n L)).2=(0,0)/\zl (lt.bh (w++cP n L) (w++cP n L).length (w++cP n L)).1=(1,0,w,0)::gG n L;have h1:=lt.kr (p:=[]) (t:=w) (e:=cP n L) (EC hw) (show lt.fJ (aD 32)=false by decide) ((cP n L).length+1)
   rw[List.nil_append] at h1;have e1:(w++cP n L).length=(cP n L).length+1+1:=by simp;omega
   obtain ⟨g1,g2⟩:=N3 (w++cP n L) hn hL w ((cP n L).length+1) rfl (by show (cP n L).length<=_;omega)
   rw[e1,h1];refine ⟨g1,?_⟩;show zt _::zl _=_;rw[show zl (lt.bh (w++cP n L) ((cP n L).length+1) (cP n L)).1=_ from g2];rfl
  |
   true =>
   have e0:jJ true w++cP n L=eo++([58]++(32::(w++cP n L))):=by unfold jJ;simp
   have e1:(eo++([58]++(32::(w++cP n L)))).length=(cP n L).length+7+1:=by simp[eo];omega
   rw[e0,e1];have h1:=lt.kr (p:=[]) (t:=eo) (e:=[58]++(32::(w++cP n L))) (by decide) (by show lt.fJ (aD 58)=false;decide) ((cP n L).length+7)
   rw[List.nil_append] at h1;have h2:=Cq (p:=eo) (e:=32::(w++cP n L)) (d:=58) (.inr (.inr rfl)) ((cP n L).length+6);have e2:eo++[58]++32::(w++cP n L)=eo++([58]++(32::(w++cP n L))):=by simp
   rw[e2] at h2;have h3:=lt.lg (eo++([58]++(32::(w++cP n L)))) (w++cP n L) ((cP n L).length+5);have h4:=lt.kr (p:=eo++[58,32]) (t:=w) (e:=cP n L) (EC hw) (show lt.fJ (aD 32)=false by decide) ((cP n L).length+4)
   have e3:eo++[58,32]++w++cP n L=eo++([58]++(32::(w++cP n L))):=by simp
   rw[e3] at h4;obtain ⟨g1,g2⟩:=N3 (eo++([58]++(32::(w++cP n L)))) hn hL (eo++[58,32]++w) ((cP n L).length+4) e3.symm (by show (cP n L).length<=_;omega)
   rw[h1,h2,h3,h4];refine ⟨g1,?_⟩;show zt _::zt _::zt _::zl _=_;rw[show zl (lt.bh (eo++([58]++(32::(w++cP n L)))) ((cP n L).length+4) (cP n L)).1=_ from g2];rfl
 unfold lt.aG
 rw[if_neg (by omega),if_pos (by rw[key.1])]
 exact ⟨rfl,key.2⟩
theorem uT {α:Type} (p q:List α) (t:α):at? (p++t::q) (p.length:Int)=some t:=by
 show (p++t::q)[p.length]? = some t
 simp
theorem YA {α:Type} (p:List α):at? p (p.length:Int)=none:=by
 show p[p.length]? = none
 simp
def cm:Tok:=(4,0,[44],0)
def ED (l:List Tok) (a:Int):Prop:=at? l a=none\/at? l a=some cm
theorem iC {nm:List UInt8->Bool} {l:List Tok} {rec:Int->St->gp} {str:Int} (hs:1<=str) {st:St} (h:ED l st.a) (n:Nat):bK l rec str (n+1) st=some (true,st):=by
 unfold bK
 rcases h with h|h
 .
  rw[h]
 rw[h]
 show (if (0:Int)<str then some (true,st) else _)=_
 rw[if_pos (by omega)]
theorem EE {nm:List UInt8->Bool} {l:List Tok} {str:Int} (hs:1<=str) {st:St} {v:Int} (h:at? l st.a=some (2,v,[],0)) (h1:ED l (st.a+1)) (hx:st.x.length≠200) (k:Nat) :
 ay nm l (k+1) str st=some (true,{ st with a:=st.a+1,x:=st.x++[(1,v,[],0,0)] }):=by
 show dJ nm l (ay nm l k) st (bK l (ay nm l k) str (l.length+1))=_
 unfold dJ
 rw[h]
 show gb { st with a:=st.a+1 } (1,v,[],0,0) st.a _=_
 unfold gb
 rw[if_neg hx]
 exact iC (nm:=nm) hs (st:={ st with a:=st.a+1,x:=st.x++[(1,v,[],0,0)] }) h1 l.length
theorem Qc {nm:List UInt8->Bool} {l:List Tok} {a v:Int} (h0:at? l a=some (4,0,[45],0)) (h:at? l (a+1)=some (2,v,[],0)) (h1:ED l (a+1+1)) (k:Nat) :
 ay nm l (k+2) 1 ⟨a,0,[],0,0⟩=some (true,⟨a+1+1,0,[(1,v,[],0,0),(5,0,[],0,0)],0,0⟩):=by
 show dJ nm l (ay nm l (k+1)) ⟨a,0,[],0,0⟩ (bK l (ay nm l (k+1)) 1 (l.length+1))=_
 unfold dJ
 simp only
 rw[h0]
 show iZ ⟨a,0,[],0,0⟩ (λs1=>xX (ay nm l (k+1) 7 s1) λs2=>if (5:Int)=0 then _ else gb { s2 with d:=s2.d-1 } (5,0,[],s2.x.length-1,0) a _)=_
 unfold iZ
 rw[if_neg (show ¬(0:Int)=50 by decide)]
 have:=EE (nm:=nm) (l:=l) (str:=7) (by decide) (st:=⟨a+1,0+1,[],0,0⟩) h h1 (by simp) k
 simp only at this ⊢
 rw[this]
 unfold xX
 simp only
 rw[if_neg (show ¬(5:Int)=0 by decide)]
 unfold gb
 rw[if_neg (by simp)]
 exact iC (nm:=nm) (by decide) h1 l.length
def xN (n:Int):List Nd:=if n<0 then [(1,IntKind.wrap .i64 (n.natAbs:Int),[],0,0),(5,0,[],0,0)] else [(1,n,[],0,0)]
theorem Qd {l p q:List Tok} {n:Int} (hl:l=p++(js n++q)) (hq:q=[]\/∃r,q=cm::r):ai l (p.length:Int)=(xN n,(p.length:Int)+(js n).length,0,0):=by
 have hsep:ED l ((p++js n).length:Int):=by
  have e:l=(p++js n)++q:=by rw[hl];simp
  rw[e];rcases hq with rfl|⟨r,rfl⟩
  .
   rw[List.append_nil];exact .inl (YA _)
  exact .inr (uT _ _ _)
 have hlen:l.length=p.length+((js n).length+q.length):=by rw[hl];simp
 have go:∀st:St,ay ax l (l.length+1) 1 ⟨(p.length:Int),0,[],0,0⟩=some (true,st)->ai l (p.length:Int)=(st.x,st.a,0,0):=λst h=>by
  unfold ai fQ;rw[if_neg (by omega),h];rfl
 by_cases h:n<0
 .
  have ez:js n=[(4,0,[45],0),(2,IntKind.wrap .i64 (n.natAbs:Int),[],0)]:=by unfold js;rw[if_pos h]
  have ex:xN n=[(1,IntKind.wrap .i64 (n.natAbs:Int),[],0,0),(5,0,[],0,0)]:=by unfold xN;rw[if_pos h]
  rw[ez] at hl hsep hlen;rw[ez,ex];have a0:at? l (p.length:Int)=some (4,0,[45],0):=by rw[hl];exact uT p _ _
  have a1:at? l ((p.length:Int)+1)=some (2,IntKind.wrap .i64 (n.natAbs:Int),[],0):=by
   have:=uT (p++[(4,0,[45],0)]) q ((2,IntKind.wrap .i64 (n.natAbs:Int),[],0):Tok);rw[List.length_append] at this;rw[hl];have e:p++([(4,0,[45],0),(2,IntKind.wrap .i64 (n.natAbs:Int),[],0)]++q)=p++[((4,0,[45],0):Tok)]++(2,IntKind.wrap .i64 (n.natAbs:Int),[],0)::q:=by simp
   rw[e];exact this
  rw[List.length_append] at hsep;have hsep:ED l ((p.length:Int)+1+1):=hsep;obtain ⟨k,hk⟩:∃k,l.length+1=k+2:=⟨l.length-1,by simp at hlen;omega⟩
  have:=Qc (nm:=ax) a0 a1 hsep k;rw[<-hk] at this;rw[go _ this];rfl
 have ez:js n=[(2,n,[],0)]:=by unfold js;rw[if_neg h]
 have ex:xN n=[(1,n,[],0,0)]:=by unfold xN;rw[if_neg h]
 rw[ez] at hl hsep
 rw[ez,ex]
 have a0:at? l (p.length:Int)=some (2,n,[],0):=by rw[hl];exact uT p _ _
 rw[List.length_append] at hsep
 have hsep:ED l ((p.length:Int)+1):=hsep
 have:=EE (nm:=ax) (str:=1) (by decide) (st:=⟨(p.length:Int),0,[],0,0⟩) a0 hsep (by simp) l.length
 rw[go _ this]
 rfl
theorem Jt (n:Int) (q:List Tok):∃t r,js n++q=t::r/\t.1≠3/\t.1≠1/\iY t [58]=false:=by
 unfold js
 split
 .
  exact ⟨_,_,rfl,by simp,by simp,by decide⟩
 refine ⟨_,_,rfl,by simp,by simp,?_⟩
 unfold iY
 rfl
theorem ajE (n:Int):1<=(js n).length:=by unfold js;split<;>simp
def z6 (n:Int):Dt:=([],xN n)
theorem N4 (nn:Int):∀(L:List Int) (n:Int) (l p:List Tok) (m:Nat) (s:RS),l=p++gG n L->s.a=p.length->s.data.length+(L.length+1)<=64->L.length<m->Nv nn l m s=(true,{ s with a:=l.length,data:=s.data++z6 n::L.map z6 })
 |L,n,l,p,0,s,_,_,_,hm=>by omega
 |
  L,n,l,p,m+1,s,hl,ha,hd,hm=>by
  have hlen:l.length=p.length+((js n).length+(kG L).length):=by rw[hl];simp[gG]
  have hq:kG L=[]\/∃r,kG L=cm::r:=by
   cases L with
   |nil=>exact .inl rfl
   |cons x L=>exact .inr ⟨_,rfl⟩
  have hp:=Qd (l:=l) (p:=p) (q:=kG L) (n:=n) hl hq;obtain ⟨t,r,ht,t3,t1,_⟩:=Jt n (kG L);have cA:at? l s.a=some t:=by rw[ha,hl];unfold gG;rw[ht];exact uT p r t
  have htx:nN l s.a=none:=by unfold nN;rw[cA];exact if_neg t3
  unfold Nv;rw[if_neg (by omega),htx]
  simp only;unfold JP;rw[ha,hp,if_neg (by simp)]
  simp only;unfold zh;simp only;cases L with
  |
   nil =>
   have hz:(kG []).length=0:=rfl;rw[hz] at hlen;rw[if_pos ⟨by omega,trivial⟩]
   have e:(p.length:Int)+(js n).length=l.length:=by omega
   rw[e];rfl
  |
   cons x L =>
   have hz:(kG (x::L)).length=1+(gG x L).length:=by simp[kG,gG];omega
   rw[hz] at hlen;rw[if_neg (λh=>by have:=h.1;omega)]
   have Lq:aT l ((p.length:Int)+(js n).length) [44]=true:=by
    have e:l=(p++js n)++cm::gG x L:=by rw[hl];simp[gG,kG,cm]
    have:=uT (p++js n) (gG x L) cm;rw[<-e,List.length_append] at this;have this:at? l ((p.length:Int)+(js n).length)=some cm:=this;unfold aT;rw[this];rfl
   rw[if_pos Lq];have qB:l=(p++js n++[cm])++gG x L:=by rw[hl];simp[gG,kG,cm]
   have:=N4 nn L x l (p++js n++[cm]) m { s with a:=(p.length:Int)+(js n).length+1,data:=s.data++[([],xN n)] } qB (by simp;omega) (by simp at hd ⊢;omega) (by simp at hm;omega)
   rw[this];simp[z6]
def N5 (lab:Bool) (w:List UInt8) (D:List Dt):RS:={ eJ with lab:=if lab=true then eo else [],kind:=2,sz:=oo w,data:=D }
theorem Vd:lt.gu eo=false:=by kernel_rfl
theorem Qe (lab:Bool) {w:List UInt8} (hw:w∈oq) {n:Int} {L:List Int} (hc:L.length<64):∃a,cZ 0 (jK lab w++gG n L) eJ=(true,{ N5 lab w (z6 n::L.map z6) with a:=a }):=by
 have hne:w≠yd/\w≠wA/\w≠ee/\w≠rV/\w≠jr:=by
  unfold oq at hw;simp only[List.mem_cons,List.not_mem_nil,or_false] at hw;rcases hw with rfl|rfl|rfl|rfl<;>decide
 obtain ⟨t,r,ht,t3,t1,ts⟩:=Jt n (kG L)
 have hr:gG n L=t::r:=ht
 -- from the word on
 have rest:∀(l p:List Tok) (s:RS),l=p++(1,0,w,0)::gG n L->s.a=p.length->s.data=[]->iH 0 l false s=(true,{ s with a:=l.length,kind:=2,sz:=oo w,data:=z6 n::L.map z6 }):=λl p s hl ha hd=>by
  have cA:at? l s.a=some (1,0,w,0):=by rw[ha,hl];exact uT p _ _
  have hnm:eV l s.a=some w:=by unfold eV;rw[cA];rfl
  have hwa:eL l s.a=w:=by unfold eL;rw[cA]
  have hlen:l.length=p.length+((gG n L).length+1):=by rw[hl];simp
  unfold iH;rw[if_neg (by rw[ha];omega),hnm]
  simp only;unfold F9;rw[if_neg (λh=>by rcases h.1 with h|h|h;exact hne.2.1 h;exact hne.2.2.1 h;exact hne.2.2.2.1 h),if_neg (λh=>hne.2.2.2.2 h.1)]
  unfold dU;rw[if_pos hw];unfold wq;rw[hwa];have qB:l=(p++[(1,0,w,0)])++gG n L:=by rw[hl];simp
  rw[N4 0 L n l (p++[(1,0,w,0)]) 70 _ qB (by simp[ha]) (by rw[hd];simp;omega) (by omega)]
  rw[hd];rfl
 cases lab with
 |
  false =>
  refine ⟨((jK false w++gG n L).length:Int),?_⟩;have e:jK false w++gG n L=[]++(1,0,w,0)::gG n L:=rfl;have hl:=rest _ [] eJ e rfl rfl;have h1:at? (jK false w++gG n L) 1=some t:=by rw[hr];rfl
  have hn1:eV (jK false w++gG n L) 1=none:=by unfold eV;rw[h1];exact if_neg t1
  have hs1:aT (jK false w++gG n L) 1 [58]=false:=by unfold aT;rw[h1];exact ts
  have hn0:eV (jK false w++gG n L) eJ.a=some w:=rfl;unfold cZ;rw[hn1,if_neg (by simp),hs1,if_neg (by simp)]
  unfold gz;rw[hn0,if_neg (λh=>hne.1 (Option.some.inj h)),hl]
  rfl
 |
  true =>
  refine ⟨((jK true w++gG n L).length:Int),?_⟩;have e:jK true w++gG n L=[(1,0,eo,0),(4,0,[58],0)]++(1,0,w,0)::gG n L:=rfl;have hl:=rest _ _ { eJ with lab:=eo,a:=2 } e rfl rfl
  have hn1:eV (jK true w++gG n L) 1=none:=rfl;have hs1:aT (jK true w++gG n L) 1 [58]=true:=rfl;have hn0:eV (jK true w++gG n L) 0=some eo:=rfl;have hn2:eV (jK true w++gG n L) (2:Int)=some w:=rfl;unfold cZ;rw[hn1,if_neg (by simp),hs1,hn0,if_pos ⟨rfl,rfl⟩]
  unfold tq;rw[hn0];simp only;rw[Vd,if_neg (by simp)]
  unfold gz;simp only;rw[hn2,if_neg (λh=>hne.1 (Option.some.inj h)),hl]
  rfl
theorem Ve (n:Int):zl (js n)=js n:=by unfold js;split<;>rfl
theorem N6:∀L:List Int,zl (kG L)=kG L
 |[]=>rfl
 |
  n::L=>by
  show zt _::zl (js n++kG L)=_;rw[oH,Ve,N6 L];rfl
theorem YB (lab:Bool) (w:List UInt8):zl (jK lab w)=jK lab w:=by cases lab<;>rfl
theorem Qf (lab:Bool) {w:List UInt8} (hw:w∈oq) {n:Int} {L:List Int} (hn:jt n) (hL:∀x∈L,jt x) (hc:L.length<64) (hlen:(jJ lab w++cP n L).length<=1000) :
 yV (jJ lab w++cP n L) (N5 lab w (z6 n::L.map z6))=true:=by
 obtain ⟨h1,h2⟩:=Vc lab hw hn hL hlen
 obtain ⟨a,h3⟩:=Qe lab hw (n:=n) (L:=L) hc
 have hz:zl (jK lab w++gG n L)=jK lab w++gG n L:=by unfold gG;rw[oH,oH,YB,Ve,N6]
 have hs:=Er (n:=(jJ lab w++cP n L).length) (n':=0) (l:=(lt.aG (jJ lab w++cP n L)).1) (l':=jK lab w++gG n L) (h2.trans hz.symm) eJ
 rw[h3] at hs
 unfold yV cH
 rw[if_neg (by rw[h1];simp)]
 generalize cZ ((jJ lab w++cP n L).length:Nat) (lt.aG (jJ lab w++cP n L)).1 eJ=x at hs ⊢
 obtain ⟨b,q⟩:=x
 unfold zR at hs
 simp only[Prod.mk.injEq,RS.mk.injEq] at hs
 obtain ⟨rfl,k1,k2,k3,k4,k5,k6,k7,k8,k9,k10,k11,_⟩:=hs
 rw[if_pos rfl]
 have:LC q (N5 lab w (z6 n::L.map z6))=true:=Ce _ _ (by
  unfold JQ;rw[k2,k3,k4,k5,k6,k7,k8,k9,k10])
 simp only[this]
 rfl
end
end Go.Proofs.YtpaddkkfefgkfaaGreatDoor.ps
