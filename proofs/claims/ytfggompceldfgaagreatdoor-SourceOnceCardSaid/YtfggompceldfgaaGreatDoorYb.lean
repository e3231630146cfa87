/- SourceOnce: its answer. -/
import Derived.Test.YtfggompceldfgaaGreatDoorYa
import Derived.Test.YtfggompceldfgaaGreatDoorGva
import Derived.Test.YtfggompceldfgaaGreatDoorGrj
set_option linter.unusedVariables false
set_option linter.unusedSimpArgs false
namespace Go.Proofs.YtfggompceldfgaaGreatDoor.ps.sr
open Go.Tv Go.Ev Go.Px Go.Pp Go.Proofs.YtfggompceldfgaaGreatDoor.ex
set_option maxRecDepth 100000
noncomputable section
theorem Dn {α:Type}{l:List α}{n:Nat}(h:n<l.length)(k:α->Option AV):JR l (n:Int) k=k l[n]:=by
 unfold JR;rw[sy,aO h]
theorem alk {o:Int}{aB:List Sy}{au:List It}{r:Nat}(hs:aB.length<=100000):∀(rest pre:List Sy) (m:Nat),aB=pre++rest->rest.length<m ->
 jB1 o aB au r m (pre.map Prod.fst) pre.length pre.length=jB2 o aB au r r (aB.map Prod.fst) aB.length 1 0:=by
 intro rest;induction rest with
 |nil =>
  intro pre m he hm;obtain⟨m,rfl⟩:∃m',m=m'+1:=⟨m-1,by simp at hm;omega⟩;have e:aB=pre:=by rw[he];simp
  rw[Yp,fG (by rw[e];omega),e]
 |cons y rest ih =>
  intro pre m he hm;obtain⟨m,rfl⟩:∃m',m=m'+1:=⟨m-1,by simp at hm;omega⟩;have hl:aB.length=pre.length+(rest.length+1):=by rw[he];simp
  have hin:=ih (pre++[y]) m (by rw[he];simp) (by simp at hm;omega);rw[Yp,pL (by omega)];rw[ei,aA]at hin;conv=>lhs;rw[show JR aB (pre.length:Int)=JR (pre++y::rest) (pre.length:Int) by rw[<-he]]
  rw[Pn,cz,ee (by omega),i64_in (by omega) (by omega)];exact hin
theorem Yu {o:Int}{aB:List Sy}{au:List It}{r:Nat}(hi:au.length<=100000):∀(rest pre:List It) (m:Nat) (nm:List (List UInt8)) (last:Int),au=pre++rest->rest.length<m->nm.length+rest.length<=1000000 ->
 (∀y∈rest,last<=y.1/\1<=y.2.1/\y.2.1<=5)->(rest.map (·.1)).Pairwise (· <= ·)->(jB3 r r (nm++rest.filterMap qj) (nm++rest.filterMap qj).length 0=tT)->jB2 o aB au r m nm nm.length last pre.length=tT:=by
 intro rest;induction rest with
 |nil =>
  intro pre m nm last he hm hn h hp h3;obtain⟨m,rfl⟩:∃m',m=m'+1:=⟨m-1,by simp at hm;omega⟩;have e:au=pre:=by rw[he];simp
  rw[Yr,fG (by rw[e];omega)];simpa using h3
 |cons y rest ih =>
  intro pre m nm last he hm hn h hp h3;obtain⟨m,rfl⟩:∃m',m=m'+1:=⟨m-1,by simp at hm;omega⟩;have hl:au.length=pre.length+(rest.length+1):=by rw[he];simp
  simp only[aJ]at hm hn;obtain⟨h1,h2,h4⟩:=h y (by simp);rw[cu,jV]at hp;have hr:∀x∈rest,y.1<=x.1/\1<=x.2.1/\x.2.1<=5:=λx hx=>⟨hp.1 _ (bJ.2 ⟨x,hx,rfl⟩),(h x (by simp[hx])).2⟩
  rw[Yr,pL (by omega)];conv=>lhs;rw[show JR au (pre.length:Int)=JR (pre++y::rest) (pre.length:Int) by rw[<-he]]
  rw[Pn,fG (by omega),fG (by omega),fG (by omega),i64_in (by omega) (by omega),ck];by_cases hk:y.2.1=1
  .rw[ag hk,ee (by omega)];have hf:(y::rest).filterMap qj=y.2.2.1::rest.filterMap qj:=by rw[fJ];unfold qj;rw[ag hk]
   rw[hf]at h3;have hin:=ih (pre++[y]) m (nm++[y.2.2.1]) y.1 (by rw[he];simp) (by omega) (by simp;omega) hr hp.2 (by simpa using h3);rw[aA,aA]at hin;exact hin
  rw[aa hk];have hf:(y::rest).filterMap qj=rest.filterMap qj:=by rw[fJ];unfold qj;rw[aa hk]
  rw[hf]at h3;have hin:=ih (pre++[y]) m nm y.1 (by rw[he];simp) (by omega) (by omega) hr hp.2 h3;rw[aA]at hin;exact hin
theorem ahB {o:Int}{aB:List Sy}{au:List It}{r:Nat}(Tn:0<r)(hi:au.length<=100000):∀(rest pre:List It) (m:Nat) (last:Int),au=pre++rest->rest.length<m ->
 (∀y∈rest,last<=y.1/\1<=y.2.1/\y.2.1<=5)->(rest.map (·.1)).Pairwise (· <= ·)->(jB3 r r (rest.filterMap qj) (rest.filterMap qj).length 0=tT)->jA2 o aB au r m last pre.length=tT:=by
 intro rest;induction rest with
 |nil =>
  intro pre m last he hm h hp h3;obtain⟨m,rfl⟩:∃m',m=m'+1:=⟨m-1,by simp at hm;omega⟩;obtain⟨r,rfl⟩:∃r',r=r'+1:=⟨r-1,by omega⟩;have e:au=pre:=by rw[he];simp
  rw[Yq,fG (by rw[e];omega),ahz]
 |cons y rest ih =>
  intro pre m last he hm h hp h3;obtain⟨m,rfl⟩:∃m',m=m'+1:=⟨m-1,by simp at hm;omega⟩;have hl:au.length=pre.length+(rest.length+1):=by rw[he];simp
  simp only[aJ]at hm;obtain⟨h1,h2,h4⟩:=h y (by simp);rw[cu,jV]at hp;have hr:∀x∈rest,y.1<=x.1/\1<=x.2.1/\x.2.1<=5:=λx hx=>⟨hp.1 _ (bJ.2 ⟨x,hx,rfl⟩),(h x (by simp[hx])).2⟩
  rw[Yq,pL (by omega)];conv=>lhs;rw[show JR au (pre.length:Int)=JR (pre++y::rest) (pre.length:Int) by rw[<-he]]
  rw[Pn,fG (by omega),fG (by omega),fG (by omega),i64_in (by omega) (by omega),ck];by_cases hk:y.2.1=1
  .rw[ag hk];have hf:(y::rest).filterMap qj=y.2.2.1::rest.filterMap qj:=by rw[fJ];unfold qj;rw[ag hk]
   rw[hf]at h3;have hin:=Yu (o:=o) (aB:=aB) hi rest (pre++[y]) m [y.2.2.1] y.1 (by rw[he];simp) (by omega) (by simp;omega) hr hp.2 (by simpa using h3);rw[aA]at hin;exact hin
  rw[aa hk];have hf:(y::rest).filterMap qj=rest.filterMap qj:=by rw[fJ];unfold qj;rw[aa hk]
  rw[hf]at h3;have hin:=ih (pre++[y]) m y.1 (by rw[he];simp) (by omega) hr hp.2 h3;rw[aA]at hin;exact hin
theorem alm {r n:Nat}{nm:List (List UInt8)}(hnd:nm.Nodup)(hok:∀w∈nm,w≠[]/\w.length<=60)(hl:nm.length<400){i:Nat}(hi:i<nm.length):∀(d k m:Nat),i=k+d->d<m ->
 jI3 r n m nm nm.length i k=jB3 r n nm nm.length (i+1:Nat):=by
 intro d;induction d with
 |zero =>
  intro k m he hm;obtain⟨m,rfl⟩:∃m',m=m'+1:=⟨m-1,by omega⟩;obtain⟨h1,h2⟩:=hok _ (gO hi);rw[Yt,fG (by omega),U9,Dn hi,fG (by omega),U9,Dn hi,aU h1,i64_in (by omega) (by omega)];rfl
 |succ d ih =>
  intro k m he hm;obtain⟨m,rfl⟩:∃m',m=m'+1:=⟨m-1,by omega⟩;have hk:k<nm.length:=by omega
  have hne:nm[i]≠nm[k]:=λq=>(List.pairwise_iff_getElem.1 hnd k i hk hi (by omega)) q.symm
  rw[Yt,pL (by omega),Dn hi,Dn hk,aU hne,i64_in (by omega) (by omega)];exact ih (k+1) m (by omega) (by omega)
theorem aln {r:Nat}{nm:List (List UInt8)}(hnd:nm.Nodup)(hok:∀w∈nm,w≠[]/\w.length<=60)(hr:400<r):∀(d i m:Nat),nm.length=i+d->d<m\/400<=nm.length/\0<m->jB3 r m nm nm.length i=tT:=by
 intro d;induction d with
 |zero =>
  intro i m he hm;obtain⟨m,rfl⟩:∃m',m=m'+1:=⟨m-1,by omega⟩;rw[Ys,fG (by omega)]
 |succ d ih =>
  intro i m he hm;obtain⟨m,rfl⟩:∃m',m=m'+1:=⟨m-1,by omega⟩;rw[Ys,pL (by omega)];by_cases hl:nm.length<400
  .rw[pL (by omega)];have e:=alm (r:=r) (n:=m) hnd hok hl (i:=i) (by omega) i 0 r (by omega) (by omega);refine Eq.trans e ?_;exact ih (i+1) m (by omega) (by omega)
  rw[fG (by omega)]
theorem MI:∀(l:List (List UInt8)) (s:SS) (k:Nat),uG s (2*k) (1048576*k) 1100->uG (tP l s).1 (2*(k+l.length)) (1048576*((k+l.length:Nat):Int)) 1100
 |[],s,k,h=>h
 |w::l,s,k,h=>by
  obtain⟨hx,hv⟩:=bd.MG w;have h1:=JJ h (s.ay+1);have h2:uG (lD iM gS pK { s with ay:=s.ay+1 } (iK w).1).1 (2*(k+1)) (1048576*((k+1:Nat):Int)) 1100:=by
   rw[show 2*(k+1)=2*k+2 by omega,show (1048576*((k+1:Nat):Int))=1048576*(k:Int)+1048576 by omega];exact ac8 h1 hx hv
  have e:k+(w::l).length=(k+1)+l.length:=by simp only[aJ];omega
  unfold tP;rw[zf,e];by_cases h3:(iK w).2.1≠0
  .rw[ag h3];exact h1.up (by omega) (by omega)
  rw[aa h3];by_cases h4:(lD iM gS pK { s with ay:=s.ay+1 } (iK w).1).2≠0
  .rw[ag h4];exact(JJ h2 _).up (by omega) (by omega)
  rw[aa h4];exact MI l _ (k+1) h2
theorem Po (s:List UInt8):(sO s).length<=s.length+1:=by rw[HG,cz];exact zh s
theorem abU (s:List UInt8):(vP s).1.2.1.length<=2*(s.length+1)/\(vP s).1.2.2.length<=20000:=by
 have h:=MI (sO s) BP 0 alf;have hl:=Po s;have h1:=h.aB;have h2:=h.au;by_cases he:(vP s).2.1=0
 .obtain ⟨_,_,e⟩:=W9 iM gS pK iK he;have e:vP s=_:=e;rw[e];exact⟨bz h1 (by omega),h2⟩
 have e:=Xa iM gS pK iK he;have e:(vP s).1=_:=e;rw[e];exact⟨cq _,cq _⟩
theorem aoX (s:List UInt8)(r:Nat)(hr:30000<r):aT X0 c7 anO r 6 [.str s] aH.empty (λv _=>some v)=tT:=by
 rw[ahA,cG];by_cases h0:(4000:Int)<s.length
 .rw[ag h0]
 rw[aa h0,ee (by omega)];obtain⟨l1,l2⟩:=abU s;by_cases he:(vP s).2.1=0
 .obtain ⟨t,hI,e⟩:=Xb iM gS pK iK Xh he;have e:vP s=(aaB t,0,0):=e;rw[e]at l1 l2 ⊢;obtain⟨h1,h2,h3,h4⟩:=hI;have l1:t.aB.length<=2*(s.length+1):=l1;have l2:t.au.length<=20000:=l2;show XY t.fq t.aB t.au r r 0=tT;have h3':∀y∈t.au,(1:Int)<=y.1/\1<=y.2.1/\y.2.1<=5:=λy hy=>⟨(h3 y hy).1,(h3 y hy).2.2⟩
  have hfin:jB3 r r (iL t) (iL t).length 0=tT:=aln h1 (λw hw=>⟨(h2 w hw).1,(h2 w hw).2.1⟩) (by omega) (iL t).length 0 r (by omega) (by
   have:(iL t).length<=t.aB.length+t.au.length:=by
    unfold iL;rw[aA,cz];have:=List.length_filterMap_le qj t.au;omega
   omega)
  cases hsy:t.aB with
  |nil =>
   obtain⟨r,rfl⟩:∃r',r=r'+1:=⟨r-1,by omega⟩;rw[JB,fG (by simp)];have hfin:jB3 (r+1) (r+1) (t.au.filterMap qj) (t.au.filterMap qj).length 0=tT:=by
    have e:iL t=t.au.filterMap qj:=by unfold iL;rw[hsy];rfl
    rw[e]at hfin;exact hfin
   exact ahB (by omega) (by omega) t.au [] (r+1) 1 rfl (by omega) h3' h4 hfin
  |cons y rest =>
   rw[hsy]at l1;simp only[aJ]at l1;have e1:XY t.fq (y::rest) t.au r r 0=jB2 t.fq (y::rest) t.au r r ((y::rest).map Prod.fst) (y::rest).length 1 0:=by
    obtain⟨q,hq⟩:∃q,r=q+1:=⟨r-1,by omega⟩;have e0:XY t.fq (y::rest) t.au r r 0=XY t.fq (y::rest) t.au r (q+1) 0:=by rw[<-hq]
    rw[e0,JB,pL (by simp)];have hin:=alk (o:=t.fq) (aB:=y::rest) (au:=t.au) (r:=r) (by simp only[aJ];omega) rest [y] q rfl (by omega);exact hin
   rw[e1];have hin:=Yu (o:=t.fq) (aB:=y::rest) (au:=t.au) (r:=r) (by omega) t.au [] r ((y::rest).map Prod.fst) 1 rfl (by omega) (by rw[cz,aJ];omega) h3' h4 (by
    have e:iL t=(y::rest).map Prod.fst++t.au.filterMap qj:=by unfold iL;rw[hsy]
    rw[e]at hfin;exact hfin)
   rw[cz]at hin;exact hin
 have e:=Xa iM gS pK iK he;have hne:decide ((vP s).2.1=0)=false:=aU he;rw[hne,e];rfl
end
end Go.Proofs.YtfggompceldfgaaGreatDoor.ps.sr
