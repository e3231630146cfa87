/- Places: all terms. -/
import Derived.Test.YtbeckacfibledaaGreatDoorGrd
set_option linter.unusedVariables false
set_option linter.unusedSimpArgs false

namespace Go.Proofs.YtbeckacfibledaaGreatDoor.ps
open Go.Tv Go.Ev Go.Px Go.Pp Go.Proofs.YtbeckacfibledaaGreatDoor.ex
set_option maxRecDepth 100000
noncomputable section
def NO:List rf:=(170,cTm fOn [none,none,none])::NS
theorem agy:jc X0 gR NO:=.cons ajo agx
def as9 (l:aX)(op en sz:Int)(n:Nat)(s:TS)(e f:Int):aH:=ady [.cells 212 [.eC eE l,.int .i64 op,.int .i64 en,.int .i64 s.bc,.int .i64 s.bn,.int .i64 s.ic,.int .i64 s.ix,.int .i64 s.sc,.int .i64 0,.int .i64 sz,.own 1 n,.own 2 0,.int .i64 e,.int .i64 f],.list 81 eE s.put 0 false false,.list 76 fA [] 0 false false]
def pAl:eJ:=[true,true,true,false]
def ajp:fe:=⟨iM [0,3,4] pAl,.none,[]⟩
def jAl (l:aX)(op en sz:Int)(r m:Nat)(sg:au)(a:Int)(s:TS)(e f:Int)(n:Nat):eW:=jo X0 (cN P2 NO _) ajp r 158 pAl (VB [none]) m (lS 60 [(0,.ptr 0 0),(3,.int .i64 a),(4,.str sg)]) (as9 l op en sz n s e f)
def stB (l:aX)(en a:Int):Bool:=Nat.ble l.length 2000000 && !bN a 1 && !bN en a && !bN l.length en
def onB (l:aX)(en a b:Int)(s:TS):Bool:=Nat.ble l.length 200000 && !bN a 0 && !bN b a && !bN en b&&bN en l.length && !bN (4*a) s.put.length
def Ro (l:aX)(op en sz:Int)(J:au->Int->TS->Int->Int->Nat->eW)(sg:au)(a:Int)(s:TS)(e f:Int):eW :=
 ah (stB l en a&&(bS e 0&&bS f 0)&&true) (ah (onB l en a (eP l a en) s&&true&&true)
  (ah (!(lH rp l sg a (eP l a en) s).1) (lf (.bool false) l op en sz (lH rp l sg a (eP l a en) s).2.2.2 (lH rp l sg a (eP l a en) s).2.1 (lH rp l sg a (eP l a en) s).2.2.1 (lH rp l sg a (eP l a en) s).2.2.2.put.length)
   (ah (bS (eP l a en) en) (lf (.bool true) l op en sz (lH rp l sg a (eP l a en) s).2.2.2 (lH rp l sg a (eP l a en) s).2.1 (lH rp l sg a (eP l a en) s).2.2.1 (lH rp l sg a (eP l a en) s).2.2.2.put.length)
    (Option.rec (motive:=λ_=>eW) none (λy=>J y.2.2.1 (IntKind.wrap .i64 (eP l a en+1)) (lH rp l sg a (eP l a en) s).2.2.2 (lH rp l sg a (eP l a en) s).2.1 (lH rp l sg a (eP l a en) s).2.2.1 (lH rp l sg a (eP l a en) s).2.2.2.put.length) (eL l (eP l a en))))) none) none
theorem ajr (l:aX)(op en sz:Int)(r m:Nat)(sg:au)(a:Int)(bc bn ic ix sc:Int)(put:aX)(e f:Int)(n:Nat):jAl l op en sz r (m+1) sg a ⟨bc,bn,ic,ix,sc,put⟩ e f n=Ro l op en sz (jAl l op en sz r m) sg a ⟨bc,bn,ic,ix,sc,put⟩ e f:=by kernel_rfl
def Zx (l:aX)(op:Int)(J:au->Int->eW):eW :=
 (λyes:eW=>ah (!bN (IntKind.wrap .i64 (op+1)) 0) (ah (dK l (IntKind.wrap .i64 (op+1)) [43]) yes (ah (!bN (IntKind.wrap .i64 (op+1)) 0) (ah (dK l (IntKind.wrap .i64 (op+1)) [45]) yes (J [43] (IntKind.wrap .i64 (op+1)))) none)) none)
  (Option.rec (motive:=λ_=>eW) none (λy=>J y.2.2.1 (IntKind.wrap .i64 (IntKind.wrap .i64 (op+1)+1))) (eL l (IntKind.wrap .i64 (op+1))))
theorem adP (l:aX)(op en sz:Int)(r:Nat)(bc bn ic ix sc:Int)(put:aX):aT X0 (cN P2 NO _) ajp r 158 [.ptr 0 0] (kA 212 14 (Dg l op en sz ⟨bc,bn,ic,ix,sc,put⟩ 0 0++[])) (VB [none])=Zx l op (λsg a=>jAl l op en sz r r sg a ⟨bc,bn,ic,ix,sc,put⟩ 0 0 put.length):=by kernel_rfl
theorem B4 (e:Int):∀(r:aX) (p:Tok) (a d:Int),a+r.length=e->a<=pq e p r a d/\pq e p r a d<=e
 |[],p,a,d,h=>by
  have h:a+0=e:=h;unfold pq;omega
 |t::r,p,a,d,h=>by
  have b:(a+1)+r.length=e:=by simp at h;omega
  unfold pq;have c:=B4 e r t (a+1) (d+1) b;have f:=B4 e r t (a+1) (if 0<d-1 then d-1 else 0) b;have g:=B4 e r t (a+1) d b;split
  .omega
  split
  .omega
  split<;>omega
theorem yz {l:aX}{a e:Int}(b:0<=a)(c:a<=e)(d:e<=l.length):a<=eP l a e/\eP l a e<=e:=by
 unfold eP;exact B4 e _ _ _ _ (by rw[bB,bV];omega)
theorem adQ {l:aX}{sg:au}{a b:Int}{s:TS}(h:(lH rp l sg a b s).1=true):(lH rp l sg a b s).2.1=0/\(lH rp l sg a b s).2.2.1=0:=by
 have key:∀o:qa,(∃s e f,o=lC s e f)\/(∃s,o=okO s)->o.1=true->o.2.1=0/\o.2.2.1=0:=λo i h=>by
  rcases i with⟨s,e,f,rfl⟩|⟨s,rfl⟩
  .cases h
  exact⟨rfl,rfl⟩
 have g:∀r,(∃d e f,kL sg r a s=lC d e f)\/(∃d,kL sg r a s=okO d):=λr=>by
  unfold kL;split
  .exact .inl ⟨_,_,_,rfl⟩
  split
  .exact .inr ⟨_,rfl⟩
  split
  .exact .inr ⟨_,rfl⟩
  exact .inl ⟨_,_,_,rfl⟩
 have c:∀r num n,(∃d e f,gY sg r a num n s=lC d e f)\/(∃d,gY sg r a num n s=okO d):=λr num n=>by
  unfold gY;split
  .exact .inl ⟨_,_,_,rfl⟩
  split
  .exact .inr ⟨_,rfl⟩
  exact .inl ⟨_,_,_,rfl⟩
 refine key _ ?_ h;unfold lH;split
 .exact .inl ⟨_,_,_,rfl⟩
 split
 .split
  .split
   .exact g _
   split
   .exact g _
   exact .inr ⟨_,rfl⟩
  exact .inl ⟨_,_,_,rfl⟩
 split
 .split
  .split
   .split
    .exact c _ _ _
    split
    .exact c _ _ _
    exact .inr ⟨_,rfl⟩
   .split
    .exact c _ _ _
    exact .inr ⟨_,rfl⟩
   .split
    .exact c _ _ _
    exact .inr ⟨_,rfl⟩
   exact .inr ⟨_,rfl⟩
  exact .inl ⟨_,_,_,rfl⟩
 exact .inr ⟨_,rfl⟩
theorem Ow {l:aX}{sg:au}{a b:Int}{s:TS}(j:0<=a)(i:a<=b):((lH rp l sg a b s).2.2.2.put.length:Int)<=s.put.length+3+(b-a):=by
 have g:∀r,((kL sg r a s).2.2.2.put.length:Int)<=s.put.length+3+(b-a):=λr=>by
  have:(kL sg r a s).2.2.2.put=s.put:=by
   unfold kL;split
   .rfl
   split
   .rfl
   split<;>rfl
  rw[this];omega
 have d:∀r num n,((gY sg r a num n s).2.2.2.put.length:Int)<=s.put.length+3+(b-a):=λr num n=>by
  have:(gY sg r a num n s).2.2.2.put=s.put:=by
   unfold gY;split
   .rfl
   split<;>rfl
  rw[this];omega
 have c:((od l sg a b s).2.2.2.put.length:Int)<=s.put.length+3+(b-a):=by
  have k:(Df l a b).length<=(b-a).toNat:=by unfold Df;rw[bV];omega
  unfold od okO;simp only[aA,aJ,bK];split
  .simp only[aA,aJ,bK];omega
  omega
 have h:∀e f,((lC s e f).2.2.2.put.length:Int)<=s.put.length+3+(b-a):=λe f=>by show (s.put.length:Int)<=_;omega
 unfold lH;split
 .exact h _ _
 split
 .split
  .split
   .exact g _
   split
   .exact g _
   exact c
  exact h _ _
 split
 .split
  .split
   .split
    .exact d _ _ _
    split
    .exact d _ _ _
    exact c
   .split
    .exact d _ _ _
    exact c
   .split
    .exact d _ _ _
    exact c
   exact c
  exact h _ _
 exact c
theorem Lq {l:aX}{op en sz:Int}{r:Nat}(v:l.length<=200000)(g:en<l.length):∀(m:Nat) (sg:au) (a:Int) (s:TS),1<=a->a<=en->(s.put.length:Int)<=4*a->en-a<m ->
 ∃o,n9 rp l en m sg a s=some o/\jAl l op en sz r m sg a s 0 0 s.put.length=lfO l op en sz o
 |0,sg,a,s,w,k,y,z=>by omega
 |m+1,sg,a,s,w,k,y,z=>by
  obtain⟨b1,b2⟩:=yz (l:=l) (a:=a) (e:=en) (by omega) k (by omega);have p:stB l en a=true:=by
   unfold stB;rw[eN (by omega),gB w,gB k,gB (show en<=(l.length:Int) by omega)];rfl
  have q:onB l en a (eP l a en) s=true:=by
   unfold onB;rw[eN v,gB (show 0<=a by omega),gB b1,gB b2,rC g,gB y];rfl
  have c:=ajr l op en sz r m sg a s.bc s.bn s.ic s.ix s.sc s.put 0 0 s.put.length;have c:jAl l op en sz r (m+1) sg a s 0 0 s.put.length=Ro l op en sz (jAl l op en sz r m) sg a s 0 0:=c;rw[c];unfold Ro;rw[p,q];have u:n9 rp l en (m+1) sg a s=match lH rp l sg a (eP l a en) s with
   |(true,_,_,i)=>if eP l a en=en then some (okO i) else match at? l (eP l a en) with
    |some t=>n9 rp l en m t.2.2.1 (eP l a en+1) i
    |none=>none
   |(false,x,f,i)=>some (lC i x f):=rfl
  rw[u];have h:=adQ (l:=l) (sg:=sg) (a:=a) (b:=eP l a en) (s:=s);have d:=Ow (l:=l) (sg:=sg) (a:=a) (b:=eP l a en) (s:=s) (by omega) b1;generalize D:lH rp l sg a (eP l a en) s=o at h d;obtain⟨A,E,of,os⟩:=o;cases A with
  |false=>exact⟨_,rfl,rfl⟩
  |true =>
   obtain⟨rfl,rfl⟩:=h rfl;simp only at d ⊢;show ∃o,_/\ah (bS (eP l a en) en) _ _=_;rw[cH];by_cases j:eP l a en=en
   .rw[ag j,ag j];exact⟨_,rfl,rfl⟩
   rw[aa j,aa j,getI_at?];obtain⟨t,B⟩:∃t,at? l (eP l a en)=some t:=by
    cases C:at? l (eP l a en) with
    |some t=>exact⟨t,rfl⟩
    |none=>have:=kM (by omega) C;omega
   rw[B];simp only;rw[i64_in (n:=eP l a en+1) (by omega) (by omega)];exact Lq v g m t.2.2.1 (eP l a en+1) os (by omega) (by omega) (by omega) (by omega)
def lB (l:aX)(op en:Int)(s:TS):qa :=
 (if dK l (op+1) [43]=true\/dK l (op+1) [45]=true then n9 rp l en (l.length+1) ((at? l (op+1)).getD Ea).2.2.1 (op+2) s
  else n9 rp l en (l.length+1) [43] (op+1) s).getD (lC s 0 0)
def fAl:FTm:=λl op en s args=>match args with
 |[]=>some (Nat.ble l.length 200000 && !bN op 0 && !bN en (op+1)&&bN en l.length&&s.put.isEmpty&&dK l en [93],((lB l op en s).2.1,(lB l op en s).2.2.1,(lB l op en s).2.2.2),[.val (.bool (lB l op en s).1)])
 |_=>none
theorem jV {l:aX}{a:Int}{t:au}(h:dK l a t=true):∃c,at? l a=some c/\qP c t=true:=by
 unfold dK at h;split at h
 .rename_i c b;exact⟨c,b,h⟩
 cases h
theorem Dh {c:Tok}{s t:au}(h:qP c s=true)(a:s≠t):qP c t=false:=by
 unfold qP at h ⊢;simp only[ak,aZ]at h;rw[bg h.1,h.2,aY a];rfl
theorem ajs:iI X0 gR 158 (cTm fAl []) :=
 Rk rfl DN agy (vn:=[none]) λl op en sz s args q rs d w=>by
  unfold fAl at d;split at d;case h_2=>cases d
  simp only[aq,az,ak,aU]at d;obtain⟨⟨⟨⟨⟨⟨g0,g1⟩,m⟩,f⟩,g⟩,x⟩,rfl,rfl⟩:=d;have g0:=aB g0;have g1:=Lj g1;have m:=Lj m;have f:en<l.length:=by rw[dc]at f;simpa using f
  have g:s.put=[]:=jg.1 g;refine⟨[],[.bool (lB l op en s).1],ajp,l.length+1,rfl,rfl,?_⟩;have p:=adP l op en sz (l.length+1) s.bc s.bn s.ic s.ix s.sc s.put;refine p.trans ?_;unfold Zx;simp only;rw[i64_in (n:=op+1) (by omega) (by omega),gB (show (0:Int)<=op+1 by omega),i64_in (n:=op+1+1) (by omega) (by omega),getI_at?];obtain⟨c,u⟩:∃c,at? l (op+1)=some c:=by
   cases y:at? l (op+1) with
   |some t=>exact⟨t,rfl⟩
   |none=>have:=kM (by omega) y;omega
  have go:∀(sg:au) (a:Int),op+1<=a->a<=en->lB l op en s=((n9 rp l en (l.length+1) sg a s).getD (lC s 0 0))->jAl l op en sz (l.length+1) (l.length+1) sg a s 0 0 s.put.length=some (Dg l op en sz (lB l op en s).2.2.2 (lB l op en s).2.1 (lB l op en s).2.2.1++[AV.bool (lB l op en s).1].map Gm.val,[(lB l op en s).2.2.2.put.length,0]):=λsg a p z A=>by
   obtain⟨o,B,e2⟩:=Lq (l:=l) (op:=op) (en:=en) (sz:=sz) (r:=l.length+1) g0 f (l.length+1) sg a s (by omega) z (by rw[g];show (0:Int)<=_;omega) (by omega);rw[e2,A,B];rfl
  obtain⟨ce,e,C⟩:=jV x;have i:(dK l (op+1) [43]=true\/dK l (op+1) [45]=true)->op+2<=en:=λh=>by
   by_cases D:en=op+1
   .exfalso;rw[D]at e;rcases h with h|h<;>(obtain⟨c2,v,k2⟩:=jV h;rw[e]at v;cases v;rw[Dh C (by decide)]at k2;cases k2)
   omega
  rw[u];by_cases b:dK l (op+1) [43]=true\/dK l (op+1) [45]=true
  .have hy:=go c.2.2.1 (op+1+1) (by omega) (by have:=i b;omega) (by unfold lB;rw[ag b,u,show op+1+1=op+2 by omega];rfl);cases j:dK l (op+1) [43] with
   |true=>exact hy
   |false =>
    cases k:dK l (op+1) [45] with
    |true=>exact hy
    |false=>rw[j,k]at b;simp at b
  have E:=go [43] (op+1) (by omega) (by omega) (by unfold lB;rw[aa b]);simp only[mq,fy]at b;rw[b.1,b.2];exact E
def NA:List rf:=(158,cTm fAl [])::NO
theorem agz:jc X0 gR NA:=.cons ajs agy
abbrev Wx:=Raw×Int×Int×Int
abbrev lD:Tv.Ty:=.pair (.int .i64) (.pair (.pair (.int .i64) (.int .i64)) (.pair (.pair (.pair (.int .i64) (.int .i64)) (.pair (.pair (.int .i64) (.int .i64)) (.pair (.int .i64) (.pair (.int .i64) (.int .i64))))) (.pair (.sl fA) .bool)))
def atd:Raw:=(0,(0,0),((0,0),(0,0),0,0,0),[],false)
def kB (e f:Int):Wx:=(atd,0,e,f)
def VD (r:Raw):aI:=[.int .i64 r.1,.int .i64 r.2.1.1,.int .i64 r.2.1.2,.int .i64 r.2.2.1.1.1,.int .i64 r.2.2.1.1.2,.int .i64 r.2.2.1.2.1.1,.int .i64 r.2.2.1.2.1.2,.int .i64 r.2.2.1.2.2.1,.int .i64 r.2.2.1.2.2.2.1,.int .i64 r.2.2.1.2.2.2.2,.eC fA r.2.2.2.1,.bool r.2.2.2.2]
def adR (r:Wx):aI:=[.agg (VD r.1),.int .i64 r.2.1,.agg [.int .i64 r.2.2.1,.int .i64 r.2.2.2]]
abbrev tu:=Option aI
def ry (r:Wx):tu:=some (adR r)
def sgR:List (List (Option Tv.Ty)):=[[none,none,none,none,none,none,none,none,none,none,some fA,none],[none],[none,none]]
def ajt (p:bz×Int×Int×Int)(sz:Int):Wx:=((2,(0,0),((8,0),(0,0),0,0,sz),p.1,true),p.2.1+1,0,0)
def aju (s:TS)(sz en:Int)(x:bz):Wx:=((2,(0,0),((s.bc,s.bn),(s.ic,s.ix),s.sc,0,sz),x,false),en+1,0,0)
def Jn:TS:=⟨0,0,0,0,0,[]⟩
def xz (l:aX)(op en sz:Int)(o:qa):Wx :=
 if o.1=false then kB o.2.1 o.2.2.1
 else if o.2.2.2.put=[] then (if Oq o.2.2.2.bc o.2.2.2.bn o.2.2.2.ic o.2.2.2.ix o.2.2.2.sc 0 sz=0 then aju o.2.2.2 sz en [] else kB 2 op)
 else if (bp o.2.2.2.put 0).2.2.1≠0 then kB (bp o.2.2.2.put 0).2.2.1 op
 else if (bp o.2.2.2.put 0).2.1<o.2.2.2.put.length then kB 4 op
 else if Oq o.2.2.2.bc o.2.2.2.bn o.2.2.2.ic o.2.2.2.ix o.2.2.2.sc 0 sz=0 then aju o.2.2.2 sz en (bp o.2.2.2.put 0).1 else kB 2 op
def l5 (l:aX)(op sz:Int):Wx :=
 if oO ((at? l (op+1)).getD Ea) [114,101,108]=true then
  if (bp l (op+2)).2.2.1≠0 then kB (bp l (op+2)).2.2.1 (bp l (op+2)).2.2.2
  else if dK l (bp l (op+2)).2.1 [93]=true then ajt (bp l (op+2)) sz else kB 4 (bp l (op+2)).2.1
 else match jU l (op+1) with
  |none=>kB 4 l.length
  |some en=>xz l op en sz (lB l op en Jn)
def flP (o:qa)(e op:Int):tu:=ah (bS o.2.1 0) (ry (kB e op)) (ry (kB o.2.1 o.2.2.1))
def ckP (l:aX)(op en sz:Int)(o:qa)(x:bz):tu :=
 ah (!bS (Oq o.2.2.2.bc o.2.2.2.bn o.2.2.2.ic o.2.2.2.ix o.2.2.2.sc 0 sz) 0) (flP o 2 op) (ry ((2,(0,0),((o.2.2.2.bc,o.2.2.2.bn),(o.2.2.2.ic,o.2.2.2.ix),o.2.2.2.sc,0,sz),x,false),IntKind.wrap .i64 (en+1),0,0))
def Gy (l:aX)(op en sz:Int)(o:qa):tu :=
 ah (!o.1) (ry (kB o.2.1 o.2.2.1)) (ah (bS o.2.2.2.put.length 0) (ckP l op en sz o [])
  (ah (Nat.ble o.2.2.2.put.length 2000000) (ah (!bS (bp o.2.2.2.put 0).2.2.1 0) (flP o (bp o.2.2.2.put 0).2.2.1 op)
   (ah (bN (bp o.2.2.2.put 0).2.1 o.2.2.2.put.length) (flP o 4 op) (ckP l op en sz o (bp o.2.2.2.put 0).1))) none))
def alB (l:aX)(op en:Int):Bool:=Nat.ble l.length 200000 && !bN op 0 && !bN en (op+1)&&bN en l.length&&true&&dK l en [93]
def plT (l:aX)(op sz:Int):tu :=
 (λrel a:tu=>ah (bN (IntKind.wrap .i64 (op+1)) l.length) (Option.rec (motive:=λ_=>tu) none (λy=>ah (oO y [114,101,108]) rel a) (eL l (IntKind.wrap .i64 (op+1)))) a)
  (ah (Nat.ble l.length 2000000) (ah (!bS (bp l (IntKind.wrap .i64 (op+2))).2.2.1 0) (ry (kB (bp l (IntKind.wrap .i64 (op+2))).2.2.1 (bp l (IntKind.wrap .i64 (op+2))).2.2.2))
   (ah (!bN (bp l (IntKind.wrap .i64 (op+2))).2.1 0) (ah (!dK l (bp l (IntKind.wrap .i64 (op+2))).2.1 [93]) (ry (kB 4 (bp l (IntKind.wrap .i64 (op+2))).2.1))
    (ry ((2,(0,0),((8,0),(0,0),0,0,sz),(bp l (IntKind.wrap .i64 (op+2))).1,true),IntKind.wrap .i64 ((bp l (IntKind.wrap .i64 (op+2))).2.1+1),0,0))) none)) none)
  (ah (Nat.ble l.length 2000000 && !bN (IntKind.wrap .i64 (op+1)) 0 && !bN l.length (IntKind.wrap .i64 (op+1))) (ah (!(jU l (IntKind.wrap .i64 (op+1))).isSome) (ry (kB 4 l.length))
   (ah (alB l op ((jU l (IntKind.wrap .i64 (op+1))).getD 0)&&true&&true) (Gy l op ((jU l (IntKind.wrap .i64 (op+1))).getD 0) sz (lB l op ((jU l (IntKind.wrap .i64 (op+1))).getD 0) Jn)) none)) none)
theorem adS (l:aX)(op sz:Int):aT X0 (cN P2 NA _) gC 5 145 [.eC eE l,.int .i64 op,.int .i64 sz] aH.empty (tn sgR)=plT l op sz:=by kernel_rfl
theorem Jo {e:Int}:∀(r:aX) (a d:Int),lZ r a d=some e->a<=e/\e<a+r.length/\∃c,at? r (e-a)=some c/\qP c [93]=true
 |[],a,d,h=>by cases h
 |t::r,a,d,h=>by
  have step:∀b,lZ r (a+1) b=some e->a<=e/\e<a+(t::r).length/\∃c,at? (t::r) (e-a)=some c/\qP c [93]=true:=λb h=>by
   obtain⟨l,m,c,f,g⟩:=Jo r (a+1) b h;refine⟨by omega,by simp;omega,c,?_,g⟩;obtain⟨k,i⟩:∃k:Nat,e-(a+1)=k:=⟨(e-(a+1)).toNat,by omega⟩;rw[show e-a=((k+1:Nat):Int) by omega];rw[i]at f;exact f
  unfold lZ at h;split at h
  .exact step _ h
  split at h
  .exact step _ h
  split at h
  .rename_i j;cases h;refine⟨bL _,by simp;omega,t,?_,j.2⟩;rw[Int.sub_self];rfl
  exact step _ h
theorem zc {l:aX}{a e:Int}(i:0<=a)(j:a<=l.length)(h:jU l a=some e):a<=e/\e<l.length/\dK l e [93]=true:=by
 obtain⟨d,k2,c,b,f⟩:=Jo _ _ _ h;rw[bB]at k2;refine⟨d,by omega,?_⟩;have:at? l e=some c:=by
  obtain⟨n,g⟩:∃n:Nat,e-a=n:=⟨(e-a).toNat,by omega⟩;rw[g]at b;have b:(l.drop a.toNat)[n]? = some c:=b;rw[hU]at b;rw[show e=((a.toNat+n:Nat):Int) by omega];exact b
 unfold dK;rw[this];exact f
theorem qM {l:aX}{a:Int}(h:(bp l a).2.2.1=0):a<(bp l a).2.1/\(bp l a).2.1<=l.length:=by
 obtain⟨⟨y,e,f,g⟩,b⟩:=rQ (nm:=bZ) l a;have c:bp l a=(y,e,f,g):=by unfold bp;rw[b];rfl
 rw[c]at h ⊢;exact((On b).2 h).2
theorem Lr {l:aX}{en:Int}:∀(m:Nat) (sg:au) (a:Int) (s:TS) (o:qa),n9 rp l en m sg a s=some o->o.1=true->o.2.1=0/\o.2.2.1=0
 |0,_,_,_,_,h,_=>by cases h
 |m+1,sg,a,s,o,h,b=>by
  unfold Pp.n9 at h;split at h
  .split at h
   .cases h;exact⟨rfl,rfl⟩
   split at h
   .exact Lr m _ _ _ o h b
   cases h
  cases h;cases b
theorem Tt {l:aX}{op en:Int}{s:TS}(h:(lB l op en s).1=true):(lB l op en s).2.1=0/\(lB l op en s).2.2.1=0:=by
 have key:∀r:Option qa,(∀o,r=some o->o.1=true->o.2.1=0/\o.2.2.1=0)->(r.getD (lC s 0 0)).1=true->(r.getD (lC s 0 0)).2.1=0/\(r.getD (lC s 0 0)).2.2.1=0:=λr c b=>by
  cases r with
  |none=>cases b
  |some o=>exact c o rfl b
 unfold lB at h ⊢;refine key _ (λo a=>?_) h;split at a
 .exact Lr _ _ _ _ o a
 exact Lr _ _ _ _ o a
theorem GD {l:aX}{en:Int}(d:en<l.length):∀(m:Nat) (sg:au) (a:Int) (s:TS) (o:qa),0<=a->a<=en->(s.put.length:Int)<=4*a->n9 rp l en m sg a s=some o->(o.2.2.2.put.length:Int)<=4*en+4
 |0,_,_,_,_,_,_,_,h=>by cases h
 |m+1,sg,a,s,o,j,k,n,h=>by
  obtain⟨b1,b2⟩:=yz (l:=l) (a:=a) (e:=en) j k (by omega);have c:=Ow (l:=l) (sg:=sg) (a:=a) (b:=eP l a en) (s:=s) j b1;unfold Pp.n9 at h;split at h
  .rename_i g i;rw[i]at c;simp only at c;split at h
   .cases h;show (g.put.length:Int)<=_;omega
   split at h
   .exact GD d m _ _ _ o (by omega) (by omega) (by omega) h
   cases h
  rename_i x f g i;rw[i]at c;cases h;show (g.put.length:Int)<=_;simp only at c;omega
theorem Zy {l:aX}{op en:Int}{s:TS}(m:0<=op)(g:op+1<=en)(e:en<l.length)(b:s.put=[])(i:dK l en [93]=true):((lB l op en s).2.2.2.put.length:Int)<=4*en+4:=by
 obtain⟨ce,a,j⟩:=jV i;have key:∀r:Option qa,(∀o,r=some o->(o.2.2.2.put.length:Int)<=4*en+4)->((r.getD (lC s 0 0)).2.2.2.put.length:Int)<=4*en+4:=λr h=>by
  cases r with
  |none=>show (s.put.length:Int)<=_;rw[b];show (0:Int)<=_;omega
  |some o=>exact h o rfl
 unfold lB;refine key _ λo c=>?_
 split at c
 .rename_i d;have:op+2<=en:=by
   by_cases k:en=op+1
   .exfalso;rw[k]at a;rcases d with h|h<;>(obtain⟨c2,f,k2⟩:=jV h;rw[a]at f;cases f;rw[Dh j (by decide)]at k2;cases k2)
   omega
  exact GD e _ _ _ _ o (by omega) this (by rw[b];show (0:Int)<=_;omega) c
 exact GD e _ _ _ _ o (by omega) g (by rw[b];show (0:Int)<=_;omega) c
theorem adU {l:aX}{op en sz:Int}{o:qa}(f:o.1=true->o.2.1=0/\o.2.2.1=0)(g:o.2.2.2.put.length<=2000000)(m:0<=en)(i:en<=2000000):Gy l op en sz o=ry (xz l op en sz o):=by
 unfold Gy xz;cases j:o.1 with
 |false=>rfl
 |true =>
  obtain⟨k,p⟩:=f j;have a:∀e,flP o e op=ry (kB e op):=λe=>by unfold flP;rw[k];rfl
  have b:∀x,ckP l op en sz o x=ry (if Oq o.2.2.2.bc o.2.2.2.bn o.2.2.2.ic o.2.2.2.ix o.2.2.2.sc 0 sz=0 then aju o.2.2.2 sz en x else kB 2 op):=λx=>by
   unfold ckP;rw[cF,a,i64_in (n:=en+1) (by omega) (by omega)];split<;>rfl
  show ah (bS o.2.2.2.put.length 0) _ _=_;rw[b,b,a,a,cH,cF,de,eN g,aa (show ¬true=false by decide)];by_cases c:o.2.2.2.put=[]
  .rw[ag (by rw[c];rfl),ag c]
  rw[aa (by have:0<o.2.2.2.put.length:=dD.2 c;omega),aa c];show ite _ _ _=_;by_cases d:(bp o.2.2.2.put 0).2.2.1=0
  .rw[ag d,aa (show ¬(bp o.2.2.2.put 0).2.2.1≠0 from λh=>h d)];split<;>rfl
  rw[aa d,ag d]
theorem ajv {l:aX}{op sz:Int}(g:l.length<=200000)(d:0<=op)(k:op<l.length):plT l op sz=ry (l5 l op sz):=by
 unfold plT l5;simp only;rw[i64_in (n:=op+1) (by omega) (by omega),i64_in (n:=op+2) (by omega) (by omega),eN (show l.length<=2000000 by omega),gB (show (0:Int)<=op+1 by omega),gB (show op+1<=(l.length:Int) by omega)];have i:ah (true && !false && !false) (ah (!(jU l (op+1)).isSome) (ry (kB 4 l.length))
  (ah (alB l op ((jU l (op+1)).getD 0)&&true&&true) (Gy l op ((jU l (op+1)).getD 0) sz (lB l op ((jU l (op+1)).getD 0) Jn)) none)) none=ry (match jU l (op+1) with
  |none=>kB 4 l.length
  |some en=>xz l op en sz (lB l op en Jn)):=by
  cases j:jU l (op+1) with
  |none=>rfl
  |some en =>
   obtain⟨c1,c2,e⟩:=zc (by omega) (by omega) j;have c:alB l op en=true:=by
    unfold alB;rw[eN g,gB d,gB (show op+1<=en by omega),rC c2,e];rfl
   show ah (alB l op en&&true&&true) _ _=_;rw[c];show Gy l op en sz (lB l op en Jn)=_;exact adU Tt (by have:=Zy (s:=Jn) d c1 c2 rfl e;omega) (by omega) (by omega)
 rw[i];have a:ah true (ah (!bS (bp l (op+2)).2.2.1 0) (ry (kB (bp l (op+2)).2.2.1 (bp l (op+2)).2.2.2))
  (ah (!bN (bp l (op+2)).2.1 0) (ah (!dK l (bp l (op+2)).2.1 [93]) (ry (kB 4 (bp l (op+2)).2.1))
   (ry ((2,(0,0),((8,0),(0,0),0,0,sz),(bp l (op+2)).1,true),IntKind.wrap .i64 ((bp l (op+2)).2.1+1),0,0))) none)) none=ry (if (bp l (op+2)).2.2.1≠0 then kB (bp l (op+2)).2.2.1 (bp l (op+2)).2.2.2
  else if dK l (bp l (op+2)).2.1 [93]=true then ajt (bp l (op+2)) sz else kB 4 (bp l (op+2)).2.1):=by
  show ah (!bS (bp l (op+2)).2.2.1 0) _ _=_;rw[cF];by_cases b:(bp l (op+2)).2.2.1=0
  .obtain ⟨q1,q2⟩:=qM b;rw[ag b,aa (show ¬(bp l (op+2)).2.2.1≠0 from λh=>h b),gB (by omega),i64_in (n:=(bp l (op+2)).2.1+1) (by omega) (by omega)];cases dK l (bp l (op+2)).2.1 [93]<;>rfl
  rw[aa b,ag b]
 rw[a,getI_at?,de];cases f:at? l (op+1) with
 |none =>
  have:=kM (by omega) f;rw[aa (by omega)];rfl
 |some y =>
  rw[ag (jR f).2];show ah (oO y [114,101,108]) _ _=ry (if oO y [114,101,108]=true then _ else _);cases oO y [114,101,108]<;>rfl
def gV (f:aI->Option (Bool×aI))(ins:eZ):Option (Bool×eZ×eZ) :=
 match Lt ins with
 |some vs=>match f vs with
  |some (c,a)=>some (c,[],a.map .val)
  |none=>none
 |none=>none
where Lt:eZ->Option aI
 |[]=>some []
 |.val v::l=>match Lt l with
  |some vs=>some (v::vs)
  |none=>none
 |.list _ _ _::_=>none
theorem sH:∀{ins:eZ} {vs:aI},gV.Lt ins=some vs->ins=vs.map .val
 |[],vs,h=>by cases h;rfl
 |.val v::l,vs,h=>by
  unfold gV.Lt at h;split at h
  .rename_i a b;cases h;rw[sH b];rfl
  cases h
 |.list _ _ _::_,_,h=>by cases h
theorem wT:∀(l:aI) (M:aH),dI M (l.map .val)=M
 |[],_=>rfl
 |_::l,M=>wT l M
theorem Tu {id:FuncId}(d:lt.inl id=true){M:List xw}{N:List rf}(e:jy X0 gR M)(g:jc X0 gR N){sig:List (Option (TypeId×Tv.Ty))}{f:aI->Option (Bool×aI)}(sg:List (List (Option Tv.Ty)))
 (h:∀vs b,f vs=some (true,b)->b.all Gj=true/\∃an rounds,aT X0 (cN M N _) an rounds id vs aH.empty (tn sg)=some b):iI X0 gR id ⟨none,sig,gV f⟩ :=
 Ou (nk d) (kP e g) sg λins outs rs a=>by
  unfold gV at a;split at a;case h_2=>cases a
  rename_i vs i;split at a;case h_2=>cases a
  rename_i c b j;simp only[aq,az]at a;obtain⟨rfl,_,rfl⟩:=a;obtain⟨k,an,rounds,l⟩:=h vs b j;have hi:=sH i;subst hi;refine⟨an,rounds,b,?_,rfl,k⟩;rw[uj,wT];exact l
def fPl (args:aI):Option (Bool×aI) :=
 match args with
 |[L,.int .i64 op,.int .i64 sz]=>match IX eE L with
  |some l=>some (Nat.ble l.length 200000 && !bN op 0&&bN op l.length,adR (l5 l op sz))
  |none=>none
 |_=>none
theorem Tw (r:Wx):(adR r).all Gj=true:=rfl
theorem ajw:iI X0 gR 145 ⟨none,[none,none,none],gV fPl⟩ :=
 Tu rfl DN agz sgR λvs d a=>by
  unfold fPl at a;split at a;case h_2=>cases a
  rename_i L op sz;split at a;case h_2=>cases a
  rename_i l c;simp only[aq,az,ak,aU]at a;obtain⟨⟨⟨g0,g1⟩,b⟩,rfl⟩:=a;have g0:=aB g0;have g1:=Lj g1;have b:op<l.length:=by rw[dc]at b;simpa using b
  refine⟨Tw _,gC,5,?_⟩;rw[jn c,adS,ajv g0 g1 b];rfl
def NP:List rf:=(145,⟨none,[none,none,none],gV fPl⟩)::NA
theorem agA:jc X0 gR NP:=.cons ajw agz
def AO (p:bz×Int×Int×Int):Wx:=if p.2.2.1≠0 then kB p.2.2.1 p.2.2.2 else ((3,(0,0),((0,0),(0,0),0,0,0),p.1,false),p.2.1,0,0)
def atg (r:Rg)(a:Int):Wx:=((1,r,((0,0),(0,0),0,0,0),[],false),a+1,0,0)
def bE (l:aX)(a:Int):Wx :=
 if a<0\/(l.length:Int)<a then kB 2 0 else
 match at? l a with
 |none=>AO (bp l a)
 |some t=>match qb rp t with
  |some r=>atg r a
  |none=>if 0<(rq t).1 then (if dK l (a+1) [91]=true then l5 l (a+1) (rq t).1 else kB 4 (a+1))
   else if dK l a [91]=true then l5 l a 0 else AO (bp l a)
def adV (l:aX)(a:Int):tu:=ah (Nat.ble l.length 2000000) (ah (!bS (bp l a).2.2.1 0) (ry (kB (bp l a).2.2.1 (bp l a).2.2.2)) (ry ((3,(0,0),((0,0),(0,0),0,0,0),(bp l a).1,false),(bp l a).2.1,0,0))) none
def plB (l:aX)(a:Int):Bool:=Nat.ble l.length 200000 && !bN a 0&&bN a l.length
def Ws (l:aX)(a:Int):tu :=
 ah (bN a 0) (ry (kB 2 0)) (ah (bN l.length a) (ry (kB 2 0)) (ah (bN a l.length) (Option.rec (motive:=λ_=>tu) none (λt=>ah (qb rp t).isSome
  (ry ((1,(qb rp t).getD (0,0),((0,0),(0,0),0,0,0),[],false),IntKind.wrap .i64 (a+1),0,0))
  (Option.rec (motive:=λ_=>tu) none (λt=>ah (bN 0 (rq t).1)
   (ah (!bN (IntKind.wrap .i64 (a+1)) 0) (ah (!dK l (IntKind.wrap .i64 (a+1)) [91]) (ry (kB 4 (IntKind.wrap .i64 (a+1)))) (ah (plB l (IntKind.wrap .i64 (a+1))) (ry (l5 l (IntKind.wrap .i64 (a+1)) (rq t).1)) none)) none)
   (ah (!bN a 0) (ah (dK l a [91]) (ah (plB l a) (ry (l5 l a 0)) none) (adV l a)) none)) (eL l a))) (eL l a)) (adV l a)))
theorem adW (l:aX)(a:Int):aT X0 (cN P2 NP _) gC 5 115 [.eC eE l,.int .i64 a] aH.empty (tn sgR)=Ws l a:=by kernel_rfl
theorem adX {l:aX}{a:Int}(b:l.length<=200000):adV l a=ry (AO (bp l a)):=by
 unfold adV AO;rw[eN (show l.length<=2000000 by omega)];show ah (!bS (bp l a).2.2.1 0) _ _=_;rw[cF];by_cases h:(bp l a).2.2.1=0
 .rw[ag h,aa (show ¬(bp l a).2.2.1≠0 from λq=>q h)]
 rw[aa h,ag h]
theorem ajx {l:aX}{a:Int}(e:l.length<=200000):Ws l a=ry (bE l a):=by
 unfold Ws bE;rw[de,de,de,adX e];by_cases f:a<0
 .rw[ag f,ag (.inl f)]
 rw[aa f];by_cases g:(l.length:Int)<a
 .rw[ag g,ag (.inr g)]
 rw[aa g,aa (show ¬(a<0\/(l.length:Int)<a) by omega),getI_at?];cases h:at? l a with
 |none =>
  have:=kM (by omega) h;rw[aa (by omega)]
 |some t =>
  have b:=(jR h).2;rw[ag b];simp only;rw[i64_in (n:=a+1) (by omega) (by omega),gB (show (0:Int)<=a+1 by omega),gB (show (0:Int)<=a by omega)];cases k:qb rp t with
  |some r=>rfl
  |none =>
   show ah (bN 0 (rq t).1) _ _=_;rw[de];simp only;by_cases d:0<(rq t).1
   .rw[ag d,ag d];cases i:dK l (a+1) [91] with
    |false=>rfl
    |true =>
     obtain⟨c,j,_⟩:=jV i;have:=(jR j).2;show ah (plB l (a+1)) _ _=_;unfold plB;rw[eN e,gB (show (0:Int)<=a+1 by omega),rC this];rfl
   rw[aa d,aa d];show ah (dK l a [91]) _ _=_;cases i:dK l a [91] with
   |false=>rfl
   |true =>
    show ah (plB l a) _ _=_;unfold plB;rw[eN e,gB (show (0:Int)<=a by omega),rC b];rfl
def fOp (args:aI):Option (Bool×aI) :=
 match args with
 |[L,.int .i64 a]=>match IX eE L with
  |some l=>some (Nat.ble l.length 200000,adR (bE l a))
  |none=>none
 |_=>none
theorem ajy:iI X0 gR 115 ⟨none,[none,none],gV fOp⟩ :=
 Tu rfl DN agA sgR λvs d b=>by
  unfold fOp at b;split at b;case h_2=>cases b
  rename_i L a;split at b;case h_2=>cases b
  rename_i l c;simp only[aq,az]at b;obtain⟨g0,rfl⟩:=b;have g0:=aB g0;refine⟨Tw _,gC,5,?_⟩;rw[jn c,adW,ajx g0];rfl
def NQ:List rf:=(115,⟨none,[none,none],gV fOp⟩)::NP
theorem agB:jc X0 gR NQ:=.cons ajy agA
abbrev H7:=Int×Int×eO×Int×Int
def ao6 (c:H7):aI:=[.agg [.int .i64 c.1,.int .i64 c.2.1,.eC lD c.2.2.1],.agg [.int .i64 c.2.2.2.1,.int .i64 c.2.2.2.2]]
def vO (c:H7):tu:=some (ao6 c)
def PS (e f:Int):H7:=(0,0,[],e,f)
def sgC:List (List (Option Tv.Ty)):=[[none,none,some lD],[none,none]]
def pCm:eJ:=[true,true,true,true,true,true,true,true,false]
def Ox:fe:=⟨iM [0,4,5,6,8,9] pCm,.none,[]⟩
def fCm (l:aX)(op a:Int):gJ:=lS 115 [(0,.eC eE l),(4,.ptr 0 0),(5,.ptr 1 0),(6,.int .i64 op),(8,.ptr 2 0),(9,.int .i64 a)]
def mCm (op hint:Int)(arg:AV)(rows:cQ):aH:=oL ([.cells 36 [.int .i64 0,.int .i64 0,.eB],.cells 43 [.int .i64 0,.int .i64 0],.cells 36 [.int .i64 op,.int .i64 hint,arg]]++rows)
def Zz (l:aX)(op hint:Int)(r m:Nat)(a:Int):tu:=jo X0 (cN P2 NQ _) Ox r 77 pCm (tn sgC) m (fCm l op a) (mCm op hint .eB [])
def Tx (l:aX)(op hint:Int)(r m:Nat)(n:Nat)(a:Int)(args:eO):tu:=jo X0 (cN P2 NQ _) Ox r 77 pCm (tn sgC) m (fCm l op a) (mCm op hint (.own 3 n) [.list 117 lD args 0 false false])
def Lu (l:aX)(op hint:Int)(J:Nat->Int->eO->tu)(a:Int)(args:eO):tu :=
 (λX:Raw->tu=>ah (Nat.ble l.length 200000) (ah (!bS (bE l a).2.2.1 0) (vO (PS (bE l a).2.2.1 (bE l a).2.2.2))
  (ah (bS (bE l a).1.1 3) (ah (uU op) (X (4,(bE l a).1.2)) (X (bE l a).1)) (X (bE l a).1))) none)
 (λraw=>ah (Nat.ble (args.length+1) 2000000) (ah (bS (bE l a).2.1 l.length) (vO (op,hint,args++[raw],0,0))
  (ah (!bN (bE l a).2.1 0) (ah (!dK l (bE l a).2.1 [44]) (vO (PS 4 (bE l a).2.1)) (ah (bS ((args.length+1:Nat):Int) 4) (vO (PS 3 (bE l a).2.1))
   (J (args.length+1) (IntKind.wrap .i64 ((bE l a).2.1+1)) (args++[raw])))) none)) none)
theorem adY (l:aX)(op hint:Int)(r m:Nat)(a:Int):Zz l op hint r (m+1) a=Lu l op hint (λn a args=>Tx l op hint r m n a args) a []:=by kernel_rfl
theorem Lv (l:aX)(op hint:Int)(r m n:Nat)(a:Int)(args:eO):Tx l op hint r (m+1) n a args=Lu l op hint (λn a args=>Tx l op hint r m n a args) a args:=by kernel_rfl
def cmT (l:aX)(a:Int)(J:Int->Int->Int->tu):tu :=
 ah (bN a 0) (vO (PS 2 0)) (ah (bN l.length a) (vO (PS 2 0)) (ah (!bN a 0) (ah (!(Eb l a).2) (vO (PS 6 a))
  ((
   λgo:Int->Int->tu=>ah (bN (IntKind.wrap .i64 (a+1)) l.length) (Option.rec (motive:=λ_=>tu) none (λt=>ah (!bS (rq t).2 0) (go (rq t).2 (IntKind.wrap .i64 (IntKind.wrap .i64 (a+1)+1))) (go 0 (IntKind.wrap .i64 (a+1)))) (eL l (IntKind.wrap .i64 (a+1)))) (go 0 (IntKind.wrap .i64 (a+1))))
   (λhint b=>ah (bS b l.length) (vO ((Eb l a).1,hint,[],0,0)) (J (Eb l a).1 hint b)))) none))
theorem Lw (l:aX)(a:Int)(r:Nat):aT X0 (cN P2 NQ _) Ox r 77 [.eC eE l,.int .i64 a] aH.empty (tn sgC)=cmT l a (λop hint b=>Zz l op hint r r b):=by kernel_rfl
def Ec (op:Int)(w:Raw):Raw:=if w.1=3/\uU op=true then (4,w.2) else w
def Ed (l:aX)(op hint:Int):Nat->Int->eO->Option H7
 |0,_,_=>none
 |n+1,a,args =>
  if (bE l a).2.2.1≠0 then some (PS (bE l a).2.2.1 (bE l a).2.2.2)
  else if (bE l a).2.1=l.length then some (op,hint,args++[Ec op (bE l a).1],0,0)
  else if dK l (bE l a).2.1 [44]=false then some (PS 4 (bE l a).2.1)
  else if args.length+1=4 then some (PS 3 (bE l a).2.1)
  else Ed l op hint n ((bE l a).2.1+1) (args++[Ec op (bE l a).1])
def Oy (l:aX)(op h a:Int):H7 :=
 if (if h=0 then a+1 else a+2)=(l.length:Int) then (op,h,[],0,0) else (Ed l op h 5 (if h=0 then a+1 else a+2) []).getD (PS 0 0)
def lI (l:aX)(a:Int):Int:=match at? l (a+1) with
 |some t=>(rq t).2
 |none=>0
def dY (l:aX)(a:Int):H7 :=
 if a<0\/(l.length:Int)<a then PS 2 0
 else if (Eb l a).2=false then PS 6 a
 else Oy l (Eb l a).1 (lI l a) a
theorem tq {l:aX}{i:Int}(a:0<=i)(c:i<l.length):∃t,at? l i=some t:=by
 cases b:at? l i with
 |some t=>exact⟨t,rfl⟩
 |none=>have:=kM a b;omega
theorem ZA {l:aX}{sg:au}{a b:Int}{s:TS}(k:0<=a)(v:b<=l.length)(h:(lH rp l sg a b s).1=false):(lH rp l sg a b s).2.1≠0:=by
 have key:∀o:qa,(∃s e f,e≠0/\o=lC s e f)\/(∃s,o=okO s)->o.1=false->o.2.1≠0:=λo m h=>by
  rcases m with⟨s,e,f,p,rfl⟩|⟨s,rfl⟩
  .exact p
  cases h
 have g:∀r,(∃d e f,e≠0/\kL sg r a s=lC d e f)\/(∃d,kL sg r a s=okO d):=λr=>by
  unfold kL;split
  .exact .inl ⟨_,_,_,by decide,rfl⟩
  split
  .exact .inr ⟨_,rfl⟩
  split
  .exact .inr ⟨_,rfl⟩
  exact .inl ⟨_,_,_,by decide,rfl⟩
 have c:∀r num n,(∃d e f,e≠0/\gY sg r a num n s=lC d e f)\/(∃d,gY sg r a num n s=okO d):=λr num n=>by
  unfold gY;split
  .exact .inl ⟨_,_,_,by decide,rfl⟩
  split
  .exact .inr ⟨_,rfl⟩
  exact .inl ⟨_,_,_,by decide,rfl⟩
 refine key _ ?_ h;unfold lH;split
 .exact .inl ⟨_,_,_,by decide,rfl⟩
 split
 .obtain ⟨t,j⟩:=tq (l:=l) (i:=a) k (by omega);rw[j];simp only;split
  .exact g _
  split
  .exact g _
  exact .inr ⟨_,rfl⟩
 split
 .obtain ⟨t,j⟩:=tq (l:=l) (i:=a) k (by omega);obtain⟨u,q⟩:=tq (l:=l) (i:=a+2) (by omega) (by omega);rw[j,q];simp only;split
  .split
   .exact c _ _ _
   split
   .exact c _ _ _
   exact .inr ⟨_,rfl⟩
  .split
   .exact c _ _ _
   exact .inr ⟨_,rfl⟩
  .split
   .exact c _ _ _
   exact .inr ⟨_,rfl⟩
  exact .inr ⟨_,rfl⟩
 exact .inr ⟨_,rfl⟩
theorem GF {l:aX}{en:Int}(c:en<l.length):∀(m:Nat) (sg:au) (a:Int) (s:TS) (o:qa),0<=a->a<=en->Pp.n9 rp l en m sg a s=some o->o.1=false->o.2.1≠0
 |0,_,_,_,_,_,_,h,_=>by cases h
 |m+1,sg,a,s,o,d,j,h,g=>by
  obtain⟨b1,b2⟩:=yz (l:=l) (a:=a) (e:=en) d j (by omega);have i:=ZA (l:=l) (sg:=sg) (a:=a) (b:=eP l a en) (s:=s) d (by omega);unfold Pp.n9 at h;split at h
  .split at h
   .cases h;cases g
   split at h
   .exact GF c m _ _ _ o (by omega) (by omega) h g
   cases h
  rename_i x f n k;cases h;rw[k]at i;exact i rfl
theorem Oz {l:aX}{op en:Int}{s:TS}(m:l.length<=200000)(p:s.put=[])(t:0<=op)(i:op+1<=en)(e:en<l.length)(q:dK l en [93]=true)(h:(lB l op en s).1=false):(lB l op en s).2.1≠0:=by
 obtain⟨ce,b,n⟩:=jV q;have key:∀r:Option qa,(∃o,r=some o)->(∀o,r=some o->o.1=false->o.2.1≠0)->(r.getD (lC s 0 0)).1=false->(r.getD (lC s 0 0)).2.1≠0:=λr ⟨o,f⟩ i e=>by
  subst f;exact i o rfl e
 have c:∀a:Int,0<=a->(s.put.length:Int)<=4*a:=λa h=>by rw[p];show (0:Int)<=_;omega
 unfold lB at h ⊢;refine key _ ?_ (λo f=>?_) h
 .split
  .rename_i d;have:op+2<=en:=by
    by_cases j:en=op+1
    .exfalso;rw[j]at b;rcases d with h|h<;>(obtain⟨c2,g,k2⟩:=jV h;rw[b]at g;cases g;rw[Dh n (by decide)]at k2;cases k2)
    omega
   obtain⟨o,k,_⟩:=Lq (l:=l) (op:=op) (en:=en) (sz:=0) (r:=0) m e (l.length+1) ((at? l (op+1)).getD Ea).2.2.1 (op+2) s (by omega) this (c _ (by omega)) (by omega);exact⟨o,k⟩
  obtain⟨o,k,_⟩:=Lq (l:=l) (op:=op) (en:=en) (sz:=0) (r:=0) m e (l.length+1) [43] (op+1) s (by omega) i (c _ (by omega)) (by omega);exact⟨o,k⟩
 split at f
 .rename_i d;have:op+2<=en:=by
   by_cases j:en=op+1
   .exfalso;rw[j]at b;rcases d with h|h<;>(obtain⟨c2,g,k2⟩:=jV h;rw[b]at g;cases g;rw[Dh n (by decide)]at k2;cases k2)
   omega
  exact GF e _ _ _ _ o (by omega) this f
 exact GF e _ _ _ _ o (by omega) i f
theorem Jp {l:aX}{op sz:Int}(p:l.length<=200000)(r:0<=op)(y:op<l.length)(h:(l5 l op sz).2.2.1=0):op<(l5 l op sz).2.1/\(l5 l op sz).2.1<=l.length:=by
 have d:∀e f,(kB e f).2.2.1=0->e=0:=λe f h=>h
 unfold l5 at h ⊢;split at h
 .rename_i g;rw[ag g];split at h
  .rename_i a;exact absurd h a
  rename_i a;have a:(bp l (op+2)).2.2.1=0:=cD.1 a;obtain⟨q1,q2⟩:=qM a;rw[aa (λq=>q a)];split at h
  .rename_i n;rw[ag n];obtain⟨c,i,_⟩:=jV n;have:=(jR i).2;show op<(bp l (op+2)).2.1+1/\(bp l (op+2)).2.1+1<=_;omega
  cases h
 rename_i g;rw[aa g];split at h
 .cases h
 rename_i en i;obtain⟨c1,c2,s⟩:=zc (by omega) (by omega) i;have key:∀o,(∀b,o.1=b->b=true->o.2.1=0/\o.2.2.1=0)->(xz l op en sz o).2.2.1=0->(xz l op en sz o).2.1=en+1\/(o.1=false/\o.2.1=0):=λo _ h=>by
  unfold xz at h ⊢;split at h
  .rename_i j;exact .inr ⟨j,h⟩
  rename_i j;rw[aa j];left
  split at h
  .rename_i k;rw[ag k];split at h
   .rename_i m;rw[ag m];rfl
   cases h
  rename_i k;rw[aa k];split at h
  .rename_i a;exact absurd h a
  rename_i a;rw[aa a];split at h
  .cases h
  rename_i t;rw[aa t];split at h
  .rename_i m;rw[ag m];rfl
  cases h
 rcases key (lB l op en Jn) (λb u v=>Tt (u.trans v)) h with w|⟨x,k2⟩
 .show op<(xz l op en sz (lB l op en Jn)).2.1/\(xz l op en sz (lB l op en Jn)).2.1<=_;rw[w];omega
 exact absurd k2 (Oz p rfl r c1 c2 s x)
theorem yA {l:aX}{a:Int}(i:l.length<=200000)(h:(bE l a).2.2.1=0):0<=a/\a<(bE l a).2.1/\(bE l a).2.1<=l.length:=by
 have j:(AO (bp l a)).2.2.1=0->a<(AO (bp l a)).2.1/\(AO (bp l a)).2.1<=l.length:=λh=>by
  unfold AO at h ⊢;split at h
  .rename_i d;exact absurd h d
  rename_i d;rw[aa d];exact qM (cD.1 d)
 unfold bE at h ⊢;split at h
 .cases h
 rename_i k;rw[aa k];refine⟨by omega,?_⟩;cases e:at? l a with
 |none=>rw[e]at h;exact j h
 |some t =>
  rw[e]at h;have f:=(jR e).2;simp only at h ⊢;cases m:qb rp t with
  |some r=>show a<a+1/\a+1<=_;omega
  |none =>
   rw[m]at h;simp only at h ⊢;split at h
   .rename_i g;rw[ag g];split at h
    .rename_i b;rw[ag b];obtain⟨c,n,_⟩:=jV b;have:=(jR n).2;have:=Jp i (by omega) this h;omega
    cases h
   rename_i g;rw[aa g];split at h
   .rename_i b;rw[ag b];exact Jp i (by omega) f h
   rename_i b;rw[aa b];exact j h
theorem Jq {l:aX}{op hint:Int}(g:l.length<=200000){m:Nat}{J:Nat->Int->eO->tu}{a:Int}{args:eO}(p:args.length<=3)
 (j:∀b,args.length+1<=3->∃c,Ed l op hint m b (args++[Ec op (bE l a).1])=some c/\J (args.length+1) b (args++[Ec op (bE l a).1])=vO c):∃c,Ed l op hint (m+1) a args=some c/\Lu l op hint J a args=vO c:=by
 unfold Lu;simp only;rw[eN g,eN (show args.length+1<=2000000 by omega)];have k:∀X:Raw->tu,(ah (bS (bE l a).1.1 3) (ah (uU op) (X (4,(bE l a).1.2)) (X (bE l a).1)) (X (bE l a).1))=X (Ec op (bE l a).1):=λX=>by
  rw[cH];unfold Ec;by_cases e:(bE l a).1.1=3
  .rw[ag e];cases uU op with
   |true=>rw[ag ⟨e,rfl⟩]
   |false=>rw[aa (show ¬((bE l a).1.1=3/\false=true) from λh=>by cases h.2)]
  rw[aa e,aa (show ¬((bE l a).1.1=3/\uU op=true) from λh=>e h.1)]
 have o:=k (λraw=>ah true (ah (bS (bE l a).2.1 l.length) (vO (op,hint,args++[raw],0,0))
  (ah (!bN (bE l a).2.1 0) (ah (!dK l (bE l a).2.1 [44]) (vO (PS 4 (bE l a).2.1)) (ah (bS ((args.length+1:Nat):Int) 4) (vO (PS 3 (bE l a).2.1))
   (J (args.length+1) (IntKind.wrap .i64 ((bE l a).2.1+1)) (args++[raw])))) none)) none)
 refine(bO (λz=>∃c,Ed l op hint (m+1) a args=some c/\ah true (ah (!bS (bE l a).2.2.1 0) (vO (PS (bE l a).2.2.1 (bE l a).2.2.2)) z) none=vO c) o).mpr ?_;unfold Ed;show ∃c,_/\ah (!bS (bE l a).2.2.1 0) _ _=_;rw[cF];by_cases d:(bE l a).2.2.1=0
 .obtain ⟨q,q1,q2⟩:=yA g d;rw[ag d,aa (show ¬(bE l a).2.2.1≠0 from λh=>h d)];show ∃c,_/\ah (bS (bE l a).2.1 l.length) _ _=_;rw[cH];by_cases f:(bE l a).2.1=l.length
  .rw[ag f,ag f];exact⟨_,rfl,rfl⟩
  rw[aa f,aa f,gB (by omega),i64_in (n:=(bE l a).2.1+1) (by omega) (by omega)];show ∃c,_/\ah (!dK l (bE l a).2.1 [44]) _ _=_;cases dK l (bE l a).2.1 [44] with
  |false=>exact⟨_,rfl,rfl⟩
  |true =>
   rw[aa (show ¬true=false by decide)];show ∃c,_/\ah (bS ((args.length+1:Nat):Int) 4) _ _=_;rw[cH];by_cases i:args.length+1=4
   .rw[ag i,ag (by omega)];exact⟨_,rfl,rfl⟩
   rw[aa i,aa (by omega)];exact j _ (by omega)
 rw[aa d,ag d];exact⟨_,rfl,rfl⟩
theorem Lx {l:aX}{op hint:Int}(d:l.length<=200000){r:Nat}:∀(m:Nat) (a:Int) (args:eO),args.length<=3->4<=args.length+m->∃c,Ed l op hint m a args=some c/\Tx l op hint r m args.length a args=vO c
 |0,a,args,e,f=>by omega
 |m+1,a,args,e,f=>by
  rw[Lv];refine Jq d e λb g=>?_
  have:=Lx (op:=op) (hint:=hint) d (r:=r) m b (args++[Ec op (bE l a).1]) (by simp;omega) (by simp;omega);rw[show (args++[Ec op (bE l a).1]).length=args.length+1 by simp]at this;exact this
theorem adZ {l:aX}{op hint:Int}(d:l.length<=200000){r:Nat}(a:Int):Zz l op hint r 5 a=vO ((Ed l op hint 5 a []).getD (PS 0 0)):=by
 rw[adY];obtain⟨c,e,f⟩:=Jq (l:=l) (op:=op) (hint:=hint) d (m:=4) (J:=λn a args=>Tx l op hint r 4 n a args) (a:=a) (args:=[]) (by simp) λb g=>Lx (op:=op) (hint:=hint) d (r:=r) 4 b ([]++[Ec op (bE l a).1]) (by simp) (by simp)
 rw[e];exact f
theorem ajz {l:aX}{a:Int}(h:l.length<=200000):cmT l a (λop hint b=>Zz l op hint 5 5 b)=vO (dY l a):=by
 unfold cmT dY;rw[de,de];by_cases c:a<0
 .rw[ag c,ag (.inl c)]
 rw[aa c,gB (by omega)];by_cases f:(l.length:Int)<a
 .rw[ag f,ag (.inr f)]
 rw[aa f,aa (show ¬(a<0\/(l.length:Int)<a) by omega)];show ah (!(Eb l a).2) _ _=_;cases (Eb l a).2 with
 |false=>rfl
 |true =>
  rw[aa (show ¬true=false by decide)];show ah (bN (IntKind.wrap .i64 (a+1)) l.length) _ _=_;rw[i64_in (n:=a+1) (by omega) (by omega),i64_in (n:=a+1+1) (by omega) (by omega),de,getI_at?];have go:∀hint b:Int,(if hint=0 then a+1 else a+2)=b->(ah (bS b l.length) (vO ((Eb l a).1,hint,[],0,0)) (Zz l (Eb l a).1 hint 5 5 b))=vO (Oy l (Eb l a).1 hint a):=λhint b i=>by
   unfold Oy;rw[i,cH,adZ h];split<;>rfl
  have c:=go 0 (a+1) rfl;cases d:at? l (a+1) with
  |none =>
   have:=kM (by omega) d;have g:lI l a=0:=by unfold lI;rw[d]
   rw[aa (by omega),g];exact c
  |some t =>
   have g:lI l a=(rq t).2:=by unfold lI;rw[d]
   rw[ag (jR d).2,g];show ah (!bS (rq t).2 0) _ _=_;rw[cF];by_cases e:(rq t).2=0
   .rw[ag e,e];exact c
   rw[aa e];exact go _ _ (by rw[aa e];omega)
def gCm (args:aI):Option (Bool×aI) :=
 match args with
 |[L,.int .i64 a]=>match IX eE L with
  |some l=>some (Nat.ble l.length 200000,ao6 (dY l a))
  |none=>none
 |_=>none
theorem Rp:iI X0 gR 77 ⟨none,[none,none],gV gCm⟩ :=
 Tu rfl DN agB sgC λvs d b=>by
  unfold gCm at b;split at b;case h_2=>cases b
  rename_i L a;split at b;case h_2=>cases b
  rename_i l c;simp only[aq,az]at b;obtain⟨g0,rfl⟩:=b;have g0:=aB g0;refine⟨rfl,Ox,5,?_⟩;rw[jn c,Lw,ajz g0];rfl
def NC:List rf:=(77,⟨none,[none,none],gV gCm⟩)::NQ
theorem ZB:jc X0 gR NC:=.cons Rp agB
end
end Go.Proofs.YtbeckacfibledaaGreatDoor.ps
