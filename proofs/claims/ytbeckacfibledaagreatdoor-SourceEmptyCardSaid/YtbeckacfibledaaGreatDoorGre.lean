/- Places: all terms. Places: the contract of place. Operands and instructions: the contracts of Operand and Command. -/
import Derived.Test.YtbeckacfibledaaGreatDoorGrd
set_option linter.unusedVariables false
set_option linter.unusedSimpArgs false

namespace Go.Proofs.YtbeckacfibledaaGreatDoor.ps
open Go.Tv Go.Ev Go.Px Go.Pp Go.Proofs.YtbeckacfibledaaGreatDoor.ex
set_option maxRecDepth 100000
noncomputable section
def NO:List pQ:=(170,cTm fOn [none,none,none])::NS
theorem adV:gY X0 fU NO:=.cons agD adU
def apz (l:List Tok)(op en sz:Int)(n:Nat)(s:TS)(e f:Int):aG:=aaV [.cells 212 [.dH dL l,.int .i64 op,.int .i64 en,.int .i64 s.bc,.int .i64 s.bn,.int .i64 s.ic,.int .i64 s.ix,.int .i64 s.sc,.int .i64 0,.int .i64 sz,.own 1 n,.own 2 0,.int .i64 e,.int .i64 f],.list 81 dL s.put 0 false false,.list 76 eC [] 0 false false]
def pAl:List Bool:=[true,true,true,false]
def agE:ei:=⟨gD [0,3,4] pAl,.none,[]⟩
def jAl (l:List Tok)(op en sz:Int)(r m:Nat)(sg:List UInt8)(a:Int)(s:TS)(e f:Int)(n:Nat):dZ:=iF X0 (cN P2 NO _) agE r 158 pAl (Tx [none]) m (kr 60 [(0,.ptr 0 0),(3,.int .i64 a),(4,.str sg)]) (apz l op en sz n s e f)
def stB (l:List Tok)(en a:Int):Bool:=Nat.ble l.length 2000000 && !bC a 1 && !bC en a && !bC l.length en
def onB (l:List Tok)(en a b:Int)(s:TS):Bool:=Nat.ble l.length 200000 && !bC a 0 && !bC b a && !bC en b&&bC en l.length && !bC (4*a) s.put.length
def PA (l:List Tok)(op en sz:Int)(J:List UInt8->Int->TS->Int->Int->Nat->dZ)(sg:List UInt8)(a:Int)(s:TS)(e f:Int):dZ :=
 ah (stB l en a&&(bI e 0&&bI f 0)&&true) (ah (onB l en a (fQ l a en) s&&true&&true)
  (ah (!(mX rp l sg a (fQ l a en) s).1) (lf (.bool false) l op en sz (mX rp l sg a (fQ l a en) s).2.2.2 (mX rp l sg a (fQ l a en) s).2.1 (mX rp l sg a (fQ l a en) s).2.2.1 (mX rp l sg a (fQ l a en) s).2.2.2.put.length)
   (ah (bI (fQ l a en) en) (lf (.bool true) l op en sz (mX rp l sg a (fQ l a en) s).2.2.2 (mX rp l sg a (fQ l a en) s).2.1 (mX rp l sg a (fQ l a en) s).2.2.1 (mX rp l sg a (fQ l a en) s).2.2.2.put.length)
    (Option.rec (motive:=λ_=>dZ) none (λy=>J y.2.2.1 (IntKind.wrap .i64 (fQ l a en+1)) (mX rp l sg a (fQ l a en) s).2.2.2 (mX rp l sg a (fQ l a en) s).2.1 (mX rp l sg a (fQ l a en) s).2.2.1 (mX rp l sg a (fQ l a en) s).2.2.2.put.length) (dQ l (fQ l a en))))) none) none
theorem agG (l:List Tok)(op en sz:Int)(r m:Nat)(sg:List UInt8)(a:Int)(bc bn ic ix sc:Int)(put:List Tok)(e f:Int)(n:Nat):jAl l op en sz r (m+1) sg a ⟨bc,bn,ic,ix,sc,put⟩ e f n=PA l op en sz (jAl l op en sz r m) sg a ⟨bc,bn,ic,ix,sc,put⟩ e f:=by kernel_rfl
def Xt (l:List Tok)(op:Int)(J:List UInt8->Int->dZ):dZ :=
 (λyes:dZ=>ah (!bC (IntKind.wrap .i64 (op+1)) 0) (ah (dI l (IntKind.wrap .i64 (op+1)) [43]) yes (ah (!bC (IntKind.wrap .i64 (op+1)) 0) (ah (dI l (IntKind.wrap .i64 (op+1)) [45]) yes (J [43] (IntKind.wrap .i64 (op+1)))) none)) none)
  (Option.rec (motive:=λ_=>dZ) none (λy=>J y.2.2.1 (IntKind.wrap .i64 (IntKind.wrap .i64 (op+1)+1))) (dQ l (IntKind.wrap .i64 (op+1))))
theorem abc (l:List Tok)(op en sz:Int)(r:Nat)(bc bn ic ix sc:Int)(put:List Tok):aT X0 (cN P2 NO _) agE r 158 [.ptr 0 0] (jn 212 14 (B8 l op en sz ⟨bc,bn,ic,ix,sc,put⟩ 0 0++[])) (Tx [none])=Xt l op (λsg a=>jAl l op en sz r r sg a ⟨bc,bn,ic,ix,sc,put⟩ 0 0 put.length):=by kernel_rfl
theorem AK (e:Int):∀(r:List Tok) (p:Tok) (a d:Int),a+r.length=e->a<=tJ e p r a d/\tJ e p r a d<=e
 |[],p,a,d,h=>by
  have h:a+0=e:=h;unfold tJ;omega
 |t::r,p,a,d,h=>by
  have hl:(a+1)+r.length=e:=by simp at h;omega
  unfold tJ;have i1:=AK e r t (a+1) (d+1) hl;have i2:=AK e r t (a+1) (if 0<d-1 then d-1 else 0) hl;have i3:=AK e r t (a+1) d hl;split
  .omega
  split
  .omega
  split<;>omega
theorem AL {l:List Tok}{a e:Int}(h0:0<=a)(h1:a<=e)(h2:e<=l.length):a<=fQ l a e/\fQ l a e<=e:=by
 unfold fQ;exact AK e _ _ _ _ (by rw[bQ,bR];omega)
theorem abd {l:List Tok}{sg:List UInt8}{a b:Int}{s:TS}(h:(mX rp l sg a b s).1=true):(mX rp l sg a b s).2.1=0/\(mX rp l sg a b s).2.2.1=0:=by
 have key:∀o:qU,(∃s e f,o=lJ s e f)\/(∃s,o=okO s)->o.1=true->o.2.1=0/\o.2.2.1=0:=λo ho h=>by
  rcases ho with⟨s,e,f,rfl⟩|⟨s,rfl⟩
  .cases h
  exact⟨rfl,rfl⟩
 have hal:∀r,(∃s' e f,mL sg r a s=lJ s' e f)\/(∃s',mL sg r a s=okO s'):=λr=>by
  unfold mL;split
  .exact .inl ⟨_,_,_,rfl⟩
  split
  .exact .inr ⟨_,rfl⟩
  split
  .exact .inr ⟨_,rfl⟩
  exact .inl ⟨_,_,_,rfl⟩
 have hsc:∀r num n,(∃s' e f,jf sg r a num n s=lJ s' e f)\/(∃s',jf sg r a num n s=okO s'):=λr num n=>by
  unfold jf;split
  .exact .inl ⟨_,_,_,rfl⟩
  split
  .exact .inr ⟨_,rfl⟩
  exact .inl ⟨_,_,_,rfl⟩
 refine key _ ?_ h;unfold mX;split
 .exact .inl ⟨_,_,_,rfl⟩
 split
 .split
  .split
   .exact hal _
   split
   .exact hal _
   exact .inr ⟨_,rfl⟩
  exact .inl ⟨_,_,_,rfl⟩
 split
 .split
  .split
   .split
    .exact hsc _ _ _
    split
    .exact hsc _ _ _
    exact .inr ⟨_,rfl⟩
   .split
    .exact hsc _ _ _
    exact .inr ⟨_,rfl⟩
   .split
    .exact hsc _ _ _
    exact .inr ⟨_,rfl⟩
   exact .inr ⟨_,rfl⟩
  exact .inl ⟨_,_,_,rfl⟩
 exact .inr ⟨_,rfl⟩
theorem Mt {l:List Tok}{sg:List UInt8}{a b:Int}{s:TS}(h0:0<=a)(hab:a<=b):((mX rp l sg a b s).2.2.2.put.length:Int)<=s.put.length+3+(b-a):=by
 have hal:∀r,((mL sg r a s).2.2.2.put.length:Int)<=s.put.length+3+(b-a):=λr=>by
  have:(mL sg r a s).2.2.2.put=s.put:=by
   unfold mL;split
   .rfl
   split
   .rfl
   split<;>rfl
  rw[this];omega
 have hsc:∀r num n,((jf sg r a num n s).2.2.2.put.length:Int)<=s.put.length+3+(b-a):=λr num n=>by
  have:(jf sg r a num n s).2.2.2.put=s.put:=by
   unfold jf;split
   .rfl
   split<;>rfl
  rw[this];omega
 have hot:((rz l sg a b s).2.2.2.put.length:Int)<=s.put.length+3+(b-a):=by
  have hc:(Pj l a b).length<=(b-a).toNat:=by unfold Pj;rw[bR];omega
  unfold rz okO;simp only[aA,aJ,bA];split
  .simp only[aA,aJ,bA];omega
  omega
 have hf:∀e f,((lJ s e f).2.2.2.put.length:Int)<=s.put.length+3+(b-a):=λe f=>by show (s.put.length:Int)<=_;omega
 unfold mX;split
 .exact hf _ _
 split
 .split
  .split
   .exact hal _
   split
   .exact hal _
   exact hot
  exact hf _ _
 split
 .split
  .split
   .split
    .exact hsc _ _ _
    split
    .exact hsc _ _ _
    exact hot
   .split
    .exact hsc _ _ _
    exact hot
   .split
    .exact hsc _ _ _
    exact hot
   exact hot
  exact hf _ _
 exact hot
theorem JL {l:List Tok}{op en sz:Int}{r:Nat}(hl:l.length<=200000)(hel:en<l.length):∀(m:Nat) (sg:List UInt8) (a:Int) (s:TS),1<=a->a<=en->(s.put.length:Int)<=4*a->en-a<m ->
 ∃o,oR rp l en m sg a s=some o/\jAl l op en sz r m sg a s 0 0 s.put.length=lfO l op en sz o
 |0,sg,a,s,h1,h2,h3,h4=>by omega
 |m+1,sg,a,s,h1,h2,h3,h4=>by
  obtain⟨b1,b2⟩:=AL (l:=l) (a:=a) (e:=en) (by omega) h2 (by omega);have hst:stB l en a=true:=by
   unfold stB;rw[dS (by omega),fL h1,fL h2,fL (show en<=(l.length:Int) by omega)];rfl
  have hon:onB l en a (fQ l a en) s=true:=by
   unfold onB;rw[dS hl,fL (show 0<=a by omega),fL b1,fL b2,pZ hel,fL h3];rfl
  have hstep:=agG l op en sz r m sg a s.bc s.bn s.ic s.ix s.sc s.put 0 0 s.put.length;have hstep:jAl l op en sz r (m+1) sg a s 0 0 s.put.length=PA l op en sz (jAl l op en sz r m) sg a s 0 0:=hstep;rw[hstep];unfold PA;rw[hst,hon];have hgo:oR rp l en (m+1) sg a s=match mX rp l sg a (fQ l a en) s with
   |(true,_,_,s')=>if fQ l a en=en then some (okO s') else match at? l (fQ l a en) with
    |some t=>oR rp l en m t.2.2.1 (fQ l a en+1) s'
    |none=>none
   |(false,x,f,s')=>some (lJ s' x f):=rfl
  rw[hgo];have hok:=abd (l:=l) (sg:=sg) (a:=a) (b:=fQ l a en) (s:=s);have hput:=Mt (l:=l) (sg:=sg) (a:=a) (b:=fQ l a en) (s:=s) (by omega) b1;generalize hO:mX rp l sg a (fQ l a en) s=o at hok hput;obtain⟨ob,oe,of,os⟩:=o;cases ob with
  |false=>exact⟨_,rfl,rfl⟩
  |true =>
   obtain⟨rfl,rfl⟩:=hok rfl;simp only at hput ⊢;show ∃o,_/\ah (bI (fQ l a en) en) _ _=_;rw[cq];by_cases hb:fQ l a en=en
   .rw[ag hb,ag hb];exact⟨_,rfl,rfl⟩
   rw[aa hb,aa hb,getI_at?];obtain⟨t,ht⟩:∃t,at? l (fQ l a en)=some t:=by
    cases jG:at? l (fQ l a en) with
    |some t=>exact⟨t,rfl⟩
    |none=>have:=jz (by omega) jG;omega
   rw[ht];simp only;rw[i64_in (n:=fQ l a en+1) (by omega) (by omega)];exact JL hl hel m t.2.2.1 (fQ l a en+1) os (by omega) (by omega) (by omega) (by omega)
def nC (l:List Tok)(op en:Int)(s:TS):qU :=
 (if dI l (op+1) [43]=true\/dI l (op+1) [45]=true then oR rp l en (l.length+1) ((at? l (op+1)).getD Xi).2.2.1 (op+2) s
  else oR rp l en (l.length+1) [43] (op+1) s).getD (lJ s 0 0)
def fAl:FTm:=λl op en s args=>match args with
 |[]=>some (Nat.ble l.length 200000 && !bC op 0 && !bC en (op+1)&&bC en l.length&&s.put.isEmpty&&dI l en [93],((nC l op en s).2.1,(nC l op en s).2.2.1,(nC l op en s).2.2.2),[.val (.bool (nC l op en s).1)])
 |_=>none
theorem ku {l:List Tok}{a:Int}{t:List UInt8}(h:dI l a t=true):∃c,at? l a=some c/\pY c t=true:=by
 unfold dI at h;split at h
 .rename_i c hc;exact⟨c,hc,h⟩
 cases h
theorem Fk {c:Tok}{s t:List UInt8}(h:pY c s=true)(hne:s≠t):pY c t=false:=by
 unfold pY at h ⊢;simp only[ak,aV]at h;rw[aX h.1,h.2,aU hne];rfl
theorem agH:gy X0 fU 158 (cTm fAl []) :=
 Pv rfl CJ adV (ud:=[none]) λl op en sz s args q rs hF hal=>by
  unfold fAl at hF;split at hF;case h_2=>cases hF
  simp only[aq,ay,ak,aS]at hF;obtain⟨⟨⟨⟨⟨⟨g0,g1⟩,g2⟩,g3⟩,g4⟩,g5⟩,rfl,rfl⟩:=hF;have g0:=az g0;have g1:=JG g1;have g2:=JG g2;have g3:en<l.length:=by rw[cD]at g3;simpa using g3
  have g4:s.put=[]:=ia.1 g4;refine⟨[],[.bool (nC l op en s).1],agE,l.length+1,rfl,rfl,?_⟩;have h1:=abc l op en sz (l.length+1) s.bc s.bn s.ic s.ix s.sc s.put;refine h1.trans ?_;unfold Xt;simp only;rw[i64_in (n:=op+1) (by omega) (by omega),fL (show (0:Int)<=op+1 by omega),i64_in (n:=op+1+1) (by omega) (by omega),getI_at?];obtain⟨c,hc⟩:∃c,at? l (op+1)=some c:=by
   cases jG:at? l (op+1) with
   |some t=>exact⟨t,rfl⟩
   |none=>have:=jz (by omega) jG;omega
  have go:∀(sg:List UInt8) (a:Int),op+1<=a->a<=en->nC l op en s=((oR rp l en (l.length+1) sg a s).getD (lJ s 0 0))->jAl l op en sz (l.length+1) (l.length+1) sg a s 0 0 s.put.length=some (B8 l op en sz (nC l op en s).2.2.2 (nC l op en s).2.1 (nC l op en s).2.2.1++[AV.bool (nC l op en s).1].map fN.val,[(nC l op en s).2.2.2.put.length,0]):=λsg a h1 h2 h3=>by
   obtain⟨o,e1,e2⟩:=JL (l:=l) (op:=op) (en:=en) (sz:=sz) (r:=l.length+1) g0 g3 (l.length+1) sg a s (by omega) h2 (by rw[g4];show (0:Int)<=_;omega) (by omega);rw[e2,h3,e1];rfl
  obtain⟨ce,hce,ZA⟩:=ku g5;have hne:(dI l (op+1) [43]=true\/dI l (op+1) [45]=true)->op+2<=en:=λh=>by
   by_cases he:en=op+1
   .exfalso;rw[he]at hce;rcases h with h|h<;>(obtain⟨c2,k1,k2⟩:=ku h;rw[hce]at k1;cases k1;rw[Fk ZA (by decide)]at k2;cases k2)
   omega
  rw[hc];by_cases hs:dI l (op+1) [43]=true\/dI l (op+1) [45]=true
  .have hy:=go c.2.2.1 (op+1+1) (by omega) (by have:=hne hs;omega) (by unfold nC;rw[ag hs,hc,show op+1+1=op+2 by omega];rfl);cases h43:dI l (op+1) [43] with
   |true=>exact hy
   |false =>
    cases h45:dI l (op+1) [45] with
    |true=>exact hy
    |false=>rw[h43,h45]at hs;simp at hs
  have hn:=go [43] (op+1) (by omega) (by omega) (by unfold nC;rw[aa hs]);simp only[kQ,eB]at hs;rw[hs.1,hs.2];exact hn
def NA:List pQ:=(158,cTm fAl [])::NO
theorem adW:gY X0 fU NA:=.cons agH adV
abbrev Xu:=Raw×Int×Int×Int
abbrev j3:Tv.Ty:=.pair (.int .i64) (.pair (.pair (.int .i64) (.int .i64)) (.pair (.pair (.pair (.int .i64) (.int .i64)) (.pair (.pair (.int .i64) (.int .i64)) (.pair (.int .i64) (.pair (.int .i64) (.int .i64))))) (.pair (.sl eC) .bool)))
def apD:Raw:=(0,(0,0),((0,0),(0,0),0,0,0),[],false)
def jV (e f:Int):Xu:=(apD,0,e,f)
def TA (r:Raw):List AV:=[.int .i64 r.1,.int .i64 r.2.1.1,.int .i64 r.2.1.2,.int .i64 r.2.2.1.1.1,.int .i64 r.2.2.1.1.2,.int .i64 r.2.2.1.2.1.1,.int .i64 r.2.2.1.2.1.2,.int .i64 r.2.2.1.2.2.1,.int .i64 r.2.2.1.2.2.2.1,.int .i64 r.2.2.1.2.2.2.2,.dH eC r.2.2.2.1,.bool r.2.2.2.2]
def abe (r:Xu):List AV:=[.agg (TA r.1),.int .i64 r.2.1,.agg [.int .i64 r.2.2.1,.int .i64 r.2.2.2]]
abbrev rV:=Option (List AV)
def pV (r:Xu):rV:=some (abe r)
def sgR:List (List (Option Tv.Ty)):=[[none,none,none,none,none,none,none,none,none,none,some eC,none],[none],[none,none]]
def alM (p:List Nd×Int×Int×Int)(sz:Int):Xu:=((2,(0,0),((8,0),(0,0),0,0,sz),p.1,true),p.2.1+1,0,0)
def agI (s:TS)(sz en:Int)(x:List Nd):Xu:=((2,(0,0),((s.bc,s.bn),(s.ic,s.ix),s.sc,0,sz),x,false),en+1,0,0)
def TB:TS:=⟨0,0,0,0,0,[]⟩
def Fl (l:List Tok)(op en sz:Int)(o:qU):Xu :=
 if o.1=false then jV o.2.1 o.2.2.1
 else if o.2.2.2.put=[] then (if Mp o.2.2.2.bc o.2.2.2.bn o.2.2.2.ic o.2.2.2.ix o.2.2.2.sc 0 sz=0 then agI o.2.2.2 sz en [] else jV 2 op)
 else if (bq o.2.2.2.put 0).2.2.1≠0 then jV (bq o.2.2.2.put 0).2.2.1 op
 else if (bq o.2.2.2.put 0).2.1<o.2.2.2.put.length then jV 4 op
 else if Mp o.2.2.2.bc o.2.2.2.bn o.2.2.2.ic o.2.2.2.ix o.2.2.2.sc 0 sz=0 then agI o.2.2.2 sz en (bq o.2.2.2.put 0).1 else jV 2 op
def oS (l:List Tok)(op sz:Int):Xu :=
 if ry ((at? l (op+1)).getD Xi) [114,101,108]=true then
  if (bq l (op+2)).2.2.1≠0 then jV (bq l (op+2)).2.2.1 (bq l (op+2)).2.2.2
  else if dI l (bq l (op+2)).2.1 [93]=true then alM (bq l (op+2)) sz else jV 4 (bq l (op+2)).2.1
 else match mK l (op+1) with
  |none=>jV 4 l.length
  |some en=>Fl l op en sz (nC l op en TB)
def flP (o:qU)(e op:Int):rV:=ah (bI o.2.1 0) (pV (jV e op)) (pV (jV o.2.1 o.2.2.1))
def ckP (l:List Tok)(op en sz:Int)(o:qU)(x:List Nd):rV :=
 ah (!bI (Mp o.2.2.2.bc o.2.2.2.bn o.2.2.2.ic o.2.2.2.ix o.2.2.2.sc 0 sz) 0) (flP o 2 op) (pV ((2,(0,0),((o.2.2.2.bc,o.2.2.2.bn),(o.2.2.2.ic,o.2.2.2.ix),o.2.2.2.sc,0,sz),x,false),IntKind.wrap .i64 (en+1),0,0))
def Ff (l:List Tok)(op en sz:Int)(o:qU):rV :=
 ah (!o.1) (pV (jV o.2.1 o.2.2.1)) (ah (bI o.2.2.2.put.length 0) (ckP l op en sz o [])
  (ah (Nat.ble o.2.2.2.put.length 2000000) (ah (!bI (bq o.2.2.2.put 0).2.2.1 0) (flP o (bq o.2.2.2.put 0).2.2.1 op)
   (ah (bC (bq o.2.2.2.put 0).2.1 o.2.2.2.put.length) (flP o 4 op) (ckP l op en sz o (bq o.2.2.2.put 0).1))) none))
def alB (l:List Tok)(op en:Int):Bool:=Nat.ble l.length 200000 && !bC op 0 && !bC en (op+1)&&bC en l.length&&true&&dI l en [93]
def plT (l:List Tok)(op sz:Int):rV :=
 (λrel cl:rV=>ah (bC (IntKind.wrap .i64 (op+1)) l.length) (Option.rec (motive:=λ_=>rV) none (λy=>ah (ry y [114,101,108]) rel cl) (dQ l (IntKind.wrap .i64 (op+1)))) cl)
  (ah (Nat.ble l.length 2000000) (ah (!bI (bq l (IntKind.wrap .i64 (op+2))).2.2.1 0) (pV (jV (bq l (IntKind.wrap .i64 (op+2))).2.2.1 (bq l (IntKind.wrap .i64 (op+2))).2.2.2))
   (ah (!bC (bq l (IntKind.wrap .i64 (op+2))).2.1 0) (ah (!dI l (bq l (IntKind.wrap .i64 (op+2))).2.1 [93]) (pV (jV 4 (bq l (IntKind.wrap .i64 (op+2))).2.1))
    (pV ((2,(0,0),((8,0),(0,0),0,0,sz),(bq l (IntKind.wrap .i64 (op+2))).1,true),IntKind.wrap .i64 ((bq l (IntKind.wrap .i64 (op+2))).2.1+1),0,0))) none)) none)
  (ah (Nat.ble l.length 2000000 && !bC (IntKind.wrap .i64 (op+1)) 0 && !bC l.length (IntKind.wrap .i64 (op+1))) (ah (!(mK l (IntKind.wrap .i64 (op+1))).isSome) (pV (jV 4 l.length))
   (ah (alB l op ((mK l (IntKind.wrap .i64 (op+1))).getD 0)&&true&&true) (Ff l op ((mK l (IntKind.wrap .i64 (op+1))).getD 0) sz (nC l op ((mK l (IntKind.wrap .i64 (op+1))).getD 0) TB)) none)) none)
theorem abf (l:List Tok)(op sz:Int):aT X0 (cN P2 NA _) gO 5 145 [.dH dL l,.int .i64 op,.int .i64 sz] aG.empty (rU sgR)=plT l op sz:=by kernel_rfl
theorem HJ {e:Int}:∀(r:List Tok) (a d:Int),qn r a d=some e->a<=e/\e<a+r.length/\∃c,at? r (e-a)=some c/\pY c [93]=true
 |[],a,d,h=>by cases h
 |t::r,a,d,h=>by
  have step:∀d',qn r (a+1) d'=some e->a<=e/\e<a+(t::r).length/\∃c,at? (t::r) (e-a)=some c/\pY c [93]=true:=λd' h=>by
   obtain⟨h1,h2,c,h3,h4⟩:=HJ r (a+1) d' h;refine⟨by omega,by simp;omega,c,?_,h4⟩;obtain⟨k,hk⟩:∃k:Nat,e-(a+1)=k:=⟨(e-(a+1)).toNat,by omega⟩;rw[show e-a=((k+1:Nat):Int) by omega];rw[hk]at h3;exact h3
  unfold qn at h;split at h
  .exact step _ h
  split at h
  .exact step _ h
  split at h
  .rename_i hc;cases h;refine⟨bB _,by simp;omega,t,?_,hc.2⟩;rw[Int.sub_self];rfl
  exact step _ h
theorem Ca {l:List Tok}{a e:Int}(h0:0<=a)(h1:a<=l.length)(h:mK l a=some e):a<=e/\e<l.length/\dI l e [93]=true:=by
 obtain⟨k1,k2,c,k3,k4⟩:=HJ _ _ _ h;rw[bQ]at k2;refine⟨k1,by omega,?_⟩;have:at? l e=some c:=by
  obtain⟨n,hn⟩:∃n:Nat,e-a=n:=⟨(e-a).toNat,by omega⟩;rw[hn]at k3;have k3:(l.drop a.toNat)[n]? = some c:=k3;rw[fV]at k3;rw[show e=((a.toNat+n:Nat):Int) by omega];exact k3
 unfold dI;rw[this];exact k4
theorem uD {l:List Tok}{a:Int}(h:(bq l a).2.2.1=0):a<(bq l a).2.1/\(bq l a).2.1<=l.length:=by
 obtain⟨⟨y,e,f,g⟩,hr⟩:=vF (nm:=bZ) l a;have e1:bq l a=(y,e,f,g):=by unfold bq;rw[hr];rfl
 rw[e1]at h ⊢;exact((Mn hr).2 h).2
theorem JM {l:List Tok}{en:Int}:∀(m:Nat) (sg:List UInt8) (a:Int) (s:TS) (o:qU),oR rp l en m sg a s=some o->o.1=true->o.2.1=0/\o.2.2.1=0
 |0,_,_,_,_,h,_=>by cases h
 |m+1,sg,a,s,o,h,ho=>by
  unfold Pp.oR at h;split at h
  .split at h
   .cases h;exact⟨rfl,rfl⟩
   split at h
   .exact JM m _ _ _ o h ho
   cases h
  cases h;cases ho
theorem Rk {l:List Tok}{op en:Int}{s:TS}(h:(nC l op en s).1=true):(nC l op en s).2.1=0/\(nC l op en s).2.2.1=0:=by
 have key:∀r:Option qU,(∀o,r=some o->o.1=true->o.2.1=0/\o.2.2.1=0)->(r.getD (lJ s 0 0)).1=true->(r.getD (lJ s 0 0)).2.1=0/\(r.getD (lJ s 0 0)).2.2.1=0:=λr h1 h2=>by
  cases r with
  |none=>cases h2
  |some o=>exact h1 o rfl h2
 unfold nC at h ⊢;refine key _ (λo ho=>?_) h;split at ho
 .exact JM _ _ _ _ o ho
 exact JM _ _ _ _ o ho
theorem Fm {l:List Tok}{en:Int}(hel:en<l.length):∀(m:Nat) (sg:List UInt8) (a:Int) (s:TS) (o:qU),0<=a->a<=en->(s.put.length:Int)<=4*a->oR rp l en m sg a s=some o->(o.2.2.2.put.length:Int)<=4*en+4
 |0,_,_,_,_,_,_,_,h=>by cases h
 |m+1,sg,a,s,o,h0,h1,h2,h=>by
  obtain⟨b1,b2⟩:=AL (l:=l) (a:=a) (e:=en) h0 h1 (by omega);have hput:=Mt (l:=l) (sg:=sg) (a:=a) (b:=fQ l a en) (s:=s) h0 b1;unfold Pp.oR at h;split at h
  .rename_i s' hs;rw[hs]at hput;simp only at hput;split at h
   .cases h;show (s'.put.length:Int)<=_;omega
   split at h
   .exact Fm hel m _ _ _ o (by omega) (by omega) (by omega) h
   cases h
  rename_i x f s' hs;rw[hs]at hput;cases h;show (s'.put.length:Int)<=_;simp only at hput;omega
theorem Xv {l:List Tok}{op en:Int}{s:TS}(h0:0<=op)(h1:op+1<=en)(h2:en<l.length)(hs:s.put=[])(hc:dI l en [93]=true):((nC l op en s).2.2.2.put.length:Int)<=4*en+4:=by
 obtain⟨ce,hce,ZA⟩:=ku hc;have key:∀r:Option qU,(∀o,r=some o->(o.2.2.2.put.length:Int)<=4*en+4)->((r.getD (lJ s 0 0)).2.2.2.put.length:Int)<=4*en+4:=λr h=>by
  cases r with
  |none=>show (s.put.length:Int)<=_;rw[hs];show (0:Int)<=_;omega
  |some o=>exact h o rfl
 unfold nC;refine key _ λo ho=>?_
 split at ho
 .rename_i hsg;have:op+2<=en:=by
   by_cases he:en=op+1
   .exfalso;rw[he]at hce;rcases hsg with h|h<;>(obtain⟨c2,k1,k2⟩:=ku h;rw[hce]at k1;cases k1;rw[Fk ZA (by decide)]at k2;cases k2)
   omega
  exact Fm h2 _ _ _ _ o (by omega) this (by rw[hs];show (0:Int)<=_;omega) ho
 exact Fm h2 _ _ _ _ o (by omega) h1 (by rw[hs];show (0:Int)<=_;omega) ho
theorem abg {l:List Tok}{op en sz:Int}{o:qU}(hok:o.1=true->o.2.1=0/\o.2.2.1=0)(hp:o.2.2.2.put.length<=2000000)(he:0<=en)(he2:en<=2000000):Ff l op en sz o=pV (Fl l op en sz o):=by
 unfold Ff Fl;cases ho:o.1 with
 |false=>rfl
 |true =>
  obtain⟨h1,h2⟩:=hok ho;have hfl:∀e,flP o e op=pV (jV e op):=λe=>by unfold flP;rw[h1];rfl
  have hck:∀x,ckP l op en sz o x=pV (if Mp o.2.2.2.bc o.2.2.2.bn o.2.2.2.ic o.2.2.2.ix o.2.2.2.sc 0 sz=0 then agI o.2.2.2 sz en x else jV 2 op):=λx=>by
   unfold ckP;rw[cn,hfl,i64_in (n:=en+1) (by omega) (by omega)];split<;>rfl
  show ah (bI o.2.2.2.put.length 0) _ _=_;rw[hck,hck,hfl,hfl,cq,cn,cA,dS hp,aa (show ¬true=false by decide)];by_cases hz:o.2.2.2.put=[]
  .rw[ag (by rw[hz];rfl),ag hz]
  rw[aa (by have:0<o.2.2.2.put.length:=dJ.2 hz;omega),aa hz];show ite _ _ _=_;by_cases h3:(bq o.2.2.2.put 0).2.2.1=0
  .rw[ag h3,aa (show ¬(bq o.2.2.2.put 0).2.2.1≠0 from λh=>h h3)];split<;>rfl
  rw[aa h3,ag h3]
theorem agK {l:List Tok}{op sz:Int}(hl:l.length<=200000)(h0:0<=op)(h1:op<l.length):plT l op sz=pV (oS l op sz):=by
 unfold plT oS;simp only;rw[i64_in (n:=op+1) (by omega) (by omega),i64_in (n:=op+2) (by omega) (by omega),dS (show l.length<=2000000 by omega),fL (show (0:Int)<=op+1 by omega),fL (show op+1<=(l.length:Int) by omega)];have ot:ah (true && !false && !false) (ah (!(mK l (op+1)).isSome) (pV (jV 4 l.length))
  (ah (alB l op ((mK l (op+1)).getD 0)&&true&&true) (Ff l op ((mK l (op+1)).getD 0) sz (nC l op ((mK l (op+1)).getD 0) TB)) none)) none=pV (match mK l (op+1) with
  |none=>jV 4 l.length
  |some en=>Fl l op en sz (nC l op en TB)):=by
  cases hc:mK l (op+1) with
  |none=>rfl
  |some en =>
   obtain⟨c1,c2,c3⟩:=Ca (by omega) (by omega) hc;have hal:alB l op en=true:=by
    unfold alB;rw[dS hl,fL h0,fL (show op+1<=en by omega),pZ c2,c3];rfl
   show ah (alB l op en&&true&&true) _ _=_;rw[hal];show Ff l op en sz (nC l op en TB)=_;exact abg Rk (by have:=Xv (s:=TB) h0 c1 c2 rfl c3;omega) (by omega) (by omega)
 rw[ot];have hrel:ah true (ah (!bI (bq l (op+2)).2.2.1 0) (pV (jV (bq l (op+2)).2.2.1 (bq l (op+2)).2.2.2))
  (ah (!bC (bq l (op+2)).2.1 0) (ah (!dI l (bq l (op+2)).2.1 [93]) (pV (jV 4 (bq l (op+2)).2.1))
   (pV ((2,(0,0),((8,0),(0,0),0,0,sz),(bq l (op+2)).1,true),IntKind.wrap .i64 ((bq l (op+2)).2.1+1),0,0))) none)) none=pV (if (bq l (op+2)).2.2.1≠0 then jV (bq l (op+2)).2.2.1 (bq l (op+2)).2.2.2
  else if dI l (bq l (op+2)).2.1 [93]=true then alM (bq l (op+2)) sz else jV 4 (bq l (op+2)).2.1):=by
  show ah (!bI (bq l (op+2)).2.2.1 0) _ _=_;rw[cn];by_cases h3:(bq l (op+2)).2.2.1=0
  .obtain ⟨q1,q2⟩:=uD h3;rw[ag h3,aa (show ¬(bq l (op+2)).2.2.1≠0 from λh=>h h3),fL (by omega),i64_in (n:=(bq l (op+2)).2.1+1) (by omega) (by omega)];cases dI l (bq l (op+2)).2.1 [93]<;>rfl
  rw[aa h3,ag h3]
 rw[hrel,getI_at?,cA];cases jG:at? l (op+1) with
 |none =>
  have:=jz (by omega) jG;rw[aa (by omega)];rfl
 |some y =>
  rw[ag (jo jG).2];show ah (ry y [114,101,108]) _ _=pV (if ry y [114,101,108]=true then _ else _);cases ry y [114,101,108]<;>rfl
def gV (f:List AV->Option (Bool×List AV))(ins:List fN):Option (Bool×List fN×List fN) :=
 match JN ins with
 |some vs=>match f vs with
  |some (c,ws)=>some (c,[],ws.map .val)
  |none=>none
 |none=>none
where JN:List fN->Option (List AV)
 |[]=>some []
 |.val v::l=>match JN l with
  |some vs=>some (v::vs)
  |none=>none
 |.list _ _ _::_=>none
theorem qV:∀{ins:List fN} {vs:List AV},gV.JN ins=some vs->ins=vs.map .val
 |[],vs,h=>by cases h;rfl
 |.val v::l,vs,h=>by
  unfold gV.JN at h;split at h
  .rename_i vs' h1;cases h;rw[qV h1];rfl
  cases h
 |.list _ _ _::_,_,h=>by cases h
theorem vG:∀(l:List AV) (M:aG),cQ M (l.map .val)=M
 |[],_=>rfl
 |_::l,M=>vG l M
theorem Rl {id:FuncId}(hk:lt.inl id=true){M:List wh}{N:List pQ}(hM:iT X0 fU M)(hN:gY X0 fU N){sig:List (Option (TypeId×Tv.Ty))}{f:List AV->Option (Bool×List AV)}(sg:List (List (Option Tv.Ty)))
 (h:∀vs ws,f vs=some (true,ws)->ws.all EZ=true/\∃an rounds,aT X0 (cN M N _) an rounds id vs aG.empty (rU sg)=some ws):gy X0 fU id ⟨none,sig,gV f⟩ :=
 Mr (nk hk) (jH hM hN) sg λins outs rs hg=>by
  unfold gV at hg;split at hg;case h_2=>cases hg
  rename_i vs hv;split at hg;case h_2=>cases hg
  rename_i c ws hf;simp only[aq,ay]at hg;obtain⟨rfl,_,rfl⟩:=hg;obtain⟨h1,an,rounds,h2⟩:=h vs ws hf;have hi:=qV hv;subst hi;refine⟨an,rounds,ws,?_,rfl,h1⟩;rw[sS,vG];exact h2
def fPl (args:List AV):Option (Bool×List AV) :=
 match args with
 |[L,.int .i64 op,.int .i64 sz]=>match G9 dL L with
  |some l=>some (Nat.ble l.length 200000 && !bC op 0&&bC op l.length,abe (oS l op sz))
  |none=>none
 |_=>none
theorem Rm (r:Xu):(abe r).all EZ=true:=rfl
theorem agL:gy X0 fU 145 ⟨none,[none,none,none],gV fPl⟩ :=
 Rl rfl CJ adW sgR λvs ws hf=>by
  unfold fPl at hf;split at hf;case h_2=>cases hf
  rename_i L op sz;split at hf;case h_2=>cases hf
  rename_i l hl;simp only[aq,ay,ak,aS]at hf;obtain⟨⟨⟨g0,g1⟩,g2⟩,rfl⟩:=hf;have g0:=az g0;have g1:=JG g1;have g2:op<l.length:=by rw[cD]at g2;simpa using g2
  refine⟨Rm _,gO,5,?_⟩;rw[iE hl,abf,agK g0 g1 g2];rfl
def NP:List pQ:=(145,⟨none,[none,none,none],gV fPl⟩)::NA
theorem adX:gY X0 fU NP:=.cons agL adW
def C7 (p:List Nd×Int×Int×Int):Xu:=if p.2.2.1≠0 then jV p.2.2.1 p.2.2.2 else ((3,(0,0),((0,0),(0,0),0,0,0),p.1,false),p.2.1,0,0)
def apG (r:Rg)(a:Int):Xu:=((1,r,((0,0),(0,0),0,0,0),[],false),a+1,0,0)
def bD (l:List Tok)(a:Int):Xu :=
 if a<0\/(l.length:Int)<a then jV 2 0 else
 match at? l a with
 |none=>C7 (bq l a)
 |some t=>match qo rp t with
  |some r=>apG r a
  |none=>if 0<(pU t).1 then (if dI l (a+1) [91]=true then oS l (a+1) (pU t).1 else jV 4 (a+1))
   else if dI l a [91]=true then oS l a 0 else C7 (bq l a)
def abh (l:List Tok)(a:Int):rV:=ah (Nat.ble l.length 2000000) (ah (!bI (bq l a).2.2.1 0) (pV (jV (bq l a).2.2.1 (bq l a).2.2.2)) (pV ((3,(0,0),((0,0),(0,0),0,0,0),(bq l a).1,false),(bq l a).2.1,0,0))) none
def plB (l:List Tok)(a:Int):Bool:=Nat.ble l.length 200000 && !bC a 0&&bC a l.length
def Uo (l:List Tok)(a:Int):rV :=
 ah (bC a 0) (pV (jV 2 0)) (ah (bC l.length a) (pV (jV 2 0)) (ah (bC a l.length) (Option.rec (motive:=λ_=>rV) none (λt=>ah (qo rp t).isSome
  (pV ((1,(qo rp t).getD (0,0),((0,0),(0,0),0,0,0),[],false),IntKind.wrap .i64 (a+1),0,0))
  (Option.rec (motive:=λ_=>rV) none (λt=>ah (bC 0 (pU t).1)
   (ah (!bC (IntKind.wrap .i64 (a+1)) 0) (ah (!dI l (IntKind.wrap .i64 (a+1)) [91]) (pV (jV 4 (IntKind.wrap .i64 (a+1)))) (ah (plB l (IntKind.wrap .i64 (a+1))) (pV (oS l (IntKind.wrap .i64 (a+1)) (pU t).1)) none)) none)
   (ah (!bC a 0) (ah (dI l a [91]) (ah (plB l a) (pV (oS l a 0)) none) (abh l a)) none)) (dQ l a))) (dQ l a)) (abh l a)))
theorem abj (l:List Tok)(a:Int):aT X0 (cN P2 NP _) gO 5 115 [.dH dL l,.int .i64 a] aG.empty (rU sgR)=Uo l a:=by kernel_rfl
theorem abk {l:List Tok}{a:Int}(hl:l.length<=200000):abh l a=pV (C7 (bq l a)):=by
 unfold abh C7;rw[dS (show l.length<=2000000 by omega)];show ah (!bI (bq l a).2.2.1 0) _ _=_;rw[cn];by_cases h:(bq l a).2.2.1=0
 .rw[ag h,aa (show ¬(bq l a).2.2.1≠0 from λq=>q h)]
 rw[aa h,ag h]
theorem agM {l:List Tok}{a:Int}(hl:l.length<=200000):Uo l a=pV (bD l a):=by
 unfold Uo bD;rw[cA,cA,cA,abk hl];by_cases h0:a<0
 .rw[ag h0,ag (.inl h0)]
 rw[aa h0];by_cases h1:(l.length:Int)<a
 .rw[ag h1,ag (.inr h1)]
 rw[aa h1,aa (show ¬(a<0\/(l.length:Int)<a) by omega),getI_at?];cases jG:at? l a with
 |none =>
  have:=jz (by omega) jG;rw[aa (by omega)]
 |some t =>
  have hlt:=(jo jG).2;rw[ag hlt];simp only;rw[i64_in (n:=a+1) (by omega) (by omega),fL (show (0:Int)<=a+1 by omega),fL (show (0:Int)<=a by omega)];cases hr:qo rp t with
  |some r=>rfl
  |none =>
   show ah (bC 0 (pU t).1) _ _=_;rw[cA];simp only;by_cases hw:0<(pU t).1
   .rw[ag hw,ag hw];cases hs:dI l (a+1) [91] with
    |false=>rfl
    |true =>
     obtain⟨c,hc,_⟩:=ku hs;have:=(jo hc).2;show ah (plB l (a+1)) _ _=_;unfold plB;rw[dS hl,fL (show (0:Int)<=a+1 by omega),pZ this];rfl
   rw[aa hw,aa hw];show ah (dI l a [91]) _ _=_;cases hs:dI l a [91] with
   |false=>rfl
   |true =>
    show ah (plB l a) _ _=_;unfold plB;rw[dS hl,fL (show (0:Int)<=a by omega),pZ hlt];rfl
def fOp (args:List AV):Option (Bool×List AV) :=
 match args with
 |[L,.int .i64 a]=>match G9 dL L with
  |some l=>some (Nat.ble l.length 200000,abe (bD l a))
  |none=>none
 |_=>none
theorem agN:gy X0 fU 115 ⟨none,[none,none],gV fOp⟩ :=
 Rl rfl CJ adX sgR λvs ws hf=>by
  unfold fOp at hf;split at hf;case h_2=>cases hf
  rename_i L a;split at hf;case h_2=>cases hf
  rename_i l hl;simp only[aq,ay]at hf;obtain⟨g0,rfl⟩:=hf;have g0:=az g0;refine⟨Rm _,gO,5,?_⟩;rw[iE hl,abj,agM g0];rfl
def NQ:List pQ:=(115,⟨none,[none,none],gV fOp⟩)::NP
theorem adY:gY X0 fU NQ:=.cons agN adX
abbrev JO:=Int×Int×List Raw×Int×Int
def alP (c:JO):List AV:=[.agg [.int .i64 c.1,.int .i64 c.2.1,.dH j3 c.2.2.1],.agg [.int .i64 c.2.2.2.1,.int .i64 c.2.2.2.2]]
def uF (c:JO):rV:=some (alP c)
def NK (e f:Int):JO:=(0,0,[],e,f)
def sgC:List (List (Option Tv.Ty)):=[[none,none,some j3],[none,none]]
def pCm:List Bool:=[true,true,true,true,true,true,true,true,false]
def Mu:ei:=⟨gD [0,4,5,6,8,9] pCm,.none,[]⟩
def fCm (l:List Tok)(op a:Int):fJ:=kr 115 [(0,.dH dL l),(4,.ptr 0 0),(5,.ptr 1 0),(6,.int .i64 op),(8,.ptr 2 0),(9,.int .i64 a)]
def mCm (op hint:Int)(arg:AV)(rows:List Row):aG:=nA ([.cells 36 [.int .i64 0,.int .i64 0,.dG],.cells 43 [.int .i64 0,.int .i64 0],.cells 36 [.int .i64 op,.int .i64 hint,arg]]++rows)
def Xw (l:List Tok)(op hint:Int)(r m:Nat)(a:Int):rV:=iF X0 (cN P2 NQ _) Mu r 77 pCm (rU sgC) m (fCm l op a) (mCm op hint .dG [])
def Rn (l:List Tok)(op hint:Int)(r m:Nat)(n:Nat)(a:Int)(args:List Raw):rV:=iF X0 (cN P2 NQ _) Mu r 77 pCm (rU sgC) m (fCm l op a) (mCm op hint (.own 3 n) [.list 117 j3 args 0 false false])
def JP (l:List Tok)(op hint:Int)(J:Nat->Int->List Raw->rV)(a:Int)(args:List Raw):rV :=
 (λX:Raw->rV=>ah (Nat.ble l.length 200000) (ah (!bI (bD l a).2.2.1 0) (uF (NK (bD l a).2.2.1 (bD l a).2.2.2))
  (ah (bI (bD l a).1.1 3) (ah (tI op) (X (4,(bD l a).1.2)) (X (bD l a).1)) (X (bD l a).1))) none)
 (λraw=>ah (Nat.ble (args.length+1) 2000000) (ah (bI (bD l a).2.1 l.length) (uF (op,hint,args++[raw],0,0))
  (ah (!bC (bD l a).2.1 0) (ah (!dI l (bD l a).2.1 [44]) (uF (NK 4 (bD l a).2.1)) (ah (bI ((args.length+1:Nat):Int) 4) (uF (NK 3 (bD l a).2.1))
   (J (args.length+1) (IntKind.wrap .i64 ((bD l a).2.1+1)) (args++[raw])))) none)) none)
theorem abl (l:List Tok)(op hint:Int)(r m:Nat)(a:Int):Xw l op hint r (m+1) a=JP l op hint (λn a args=>Rn l op hint r m n a args) a []:=by kernel_rfl
theorem JQ (l:List Tok)(op hint:Int)(r m n:Nat)(a:Int)(args:List Raw):Rn l op hint r (m+1) n a args=JP l op hint (λn a args=>Rn l op hint r m n a args) a args:=by kernel_rfl
def cmT (l:List Tok)(a:Int)(J:Int->Int->Int->rV):rV :=
 ah (bC a 0) (uF (NK 2 0)) (ah (bC l.length a) (uF (NK 2 0)) (ah (!bC a 0) (ah (!(Kn l a).2) (uF (NK 6 a))
  ((
   λgo:Int->Int->rV=>ah (bC (IntKind.wrap .i64 (a+1)) l.length) (Option.rec (motive:=λ_=>rV) none (λt=>ah (!bI (pU t).2 0) (go (pU t).2 (IntKind.wrap .i64 (IntKind.wrap .i64 (a+1)+1))) (go 0 (IntKind.wrap .i64 (a+1)))) (dQ l (IntKind.wrap .i64 (a+1)))) (go 0 (IntKind.wrap .i64 (a+1))))
   (λhint b=>ah (bI b l.length) (uF ((Kn l a).1,hint,[],0,0)) (J (Kn l a).1 hint b)))) none))
theorem JR (l:List Tok)(a:Int)(r:Nat):aT X0 (cN P2 NQ _) Mu r 77 [.dH dL l,.int .i64 a] aG.empty (rU sgC)=cmT l a (λop hint b=>Xw l op hint r r b):=by kernel_rfl
def C8 (op:Int)(w:Raw):Raw:=if w.1=3/\tI op=true then (4,w.2) else w
def Mv (l:List Tok)(op hint:Int):Nat->Int->List Raw->Option JO
 |0,_,_=>none
 |n+1,a,args =>
  if (bD l a).2.2.1≠0 then some (NK (bD l a).2.2.1 (bD l a).2.2.2)
  else if (bD l a).2.1=l.length then some (op,hint,args++[C8 op (bD l a).1],0,0)
  else if dI l (bD l a).2.1 [44]=false then some (NK 4 (bD l a).2.1)
  else if args.length+1=4 then some (NK 3 (bD l a).2.1)
  else Mv l op hint n ((bD l a).2.1+1) (args++[C8 op (bD l a).1])
def TC (l:List Tok)(op h a:Int):JO :=
 if (if h=0 then a+1 else a+2)=(l.length:Int) then (op,h,[],0,0) else (Mv l op h 5 (if h=0 then a+1 else a+2) []).getD (NK 0 0)
def sV (l:List Tok)(a:Int):Int:=match at? l (a+1) with
 |some t=>(pU t).2
 |none=>0
def eA (l:List Tok)(a:Int):JO :=
 if a<0\/(l.length:Int)<a then NK 2 0
 else if (Kn l a).2=false then NK 6 a
 else TC l (Kn l a).1 (sV l a) a
theorem tK {l:List Tok}{i:Int}(h0:0<=i)(h1:i<l.length):∃t,at? l i=some t:=by
 cases jG:at? l i with
 |some t=>exact⟨t,rfl⟩
 |none=>have:=jz h0 jG;omega
theorem Xx {l:List Tok}{sg:List UInt8}{a b:Int}{s:TS}(h0:0<=a)(hb:b<=l.length)(h:(mX rp l sg a b s).1=false):(mX rp l sg a b s).2.1≠0:=by
 have key:∀o:qU,(∃s e f,e≠0/\o=lJ s e f)\/(∃s,o=okO s)->o.1=false->o.2.1≠0:=λo ho h=>by
  rcases ho with⟨s,e,f,he,rfl⟩|⟨s,rfl⟩
  .exact he
  cases h
 have hal:∀r,(∃s' e f,e≠0/\mL sg r a s=lJ s' e f)\/(∃s',mL sg r a s=okO s'):=λr=>by
  unfold mL;split
  .exact .inl ⟨_,_,_,by decide,rfl⟩
  split
  .exact .inr ⟨_,rfl⟩
  split
  .exact .inr ⟨_,rfl⟩
  exact .inl ⟨_,_,_,by decide,rfl⟩
 have hsc:∀r num n,(∃s' e f,e≠0/\jf sg r a num n s=lJ s' e f)\/(∃s',jf sg r a num n s=okO s'):=λr num n=>by
  unfold jf;split
  .exact .inl ⟨_,_,_,by decide,rfl⟩
  split
  .exact .inr ⟨_,rfl⟩
  exact .inl ⟨_,_,_,by decide,rfl⟩
 refine key _ ?_ h;unfold mX;split
 .exact .inl ⟨_,_,_,by decide,rfl⟩
 split
 .obtain ⟨t,ht⟩:=tK (l:=l) (i:=a) h0 (by omega);rw[ht];simp only;split
  .exact hal _
  split
  .exact hal _
  exact .inr ⟨_,rfl⟩
 split
 .obtain ⟨t,ht⟩:=tK (l:=l) (i:=a) h0 (by omega);obtain⟨u,hu⟩:=tK (l:=l) (i:=a+2) (by omega) (by omega);rw[ht,hu];simp only;split
  .split
   .exact hsc _ _ _
   split
   .exact hsc _ _ _
   exact .inr ⟨_,rfl⟩
  .split
   .exact hsc _ _ _
   exact .inr ⟨_,rfl⟩
  .split
   .exact hsc _ _ _
   exact .inr ⟨_,rfl⟩
  exact .inr ⟨_,rfl⟩
 exact .inr ⟨_,rfl⟩
theorem Fp {l:List Tok}{en:Int}(hel:en<l.length):∀(m:Nat) (sg:List UInt8) (a:Int) (s:TS) (o:qU),0<=a->a<=en->Pp.oR rp l en m sg a s=some o->o.1=false->o.2.1≠0
 |0,_,_,_,_,_,_,h,_=>by cases h
 |m+1,sg,a,s,o,h0,h1,h,ho=>by
  obtain⟨b1,b2⟩:=AL (l:=l) (a:=a) (e:=en) h0 h1 (by omega);have hb:=Xx (l:=l) (sg:=sg) (a:=a) (b:=fQ l a en) (s:=s) h0 (by omega);unfold Pp.oR at h;split at h
  .split at h
   .cases h;cases ho
   split at h
   .exact Fp hel m _ _ _ o (by omega) (by omega) h ho
   cases h
  rename_i x f s' hs;cases h;rw[hs]at hb;exact hb rfl
theorem Xy {l:List Tok}{op en:Int}{s:TS}(hl:l.length<=200000)(hs:s.put=[])(h0:0<=op)(h1:op+1<=en)(h2:en<l.length)(hc:dI l en [93]=true)(h:(nC l op en s).1=false):(nC l op en s).2.1≠0:=by
 obtain⟨ce,hce,ZA⟩:=ku hc;have key:∀r:Option qU,(∃o,r=some o)->(∀o,r=some o->o.1=false->o.2.1≠0)->(r.getD (lJ s 0 0)).1=false->(r.getD (lJ s 0 0)).2.1≠0:=λr ⟨o,ho⟩ h1 h2=>by
  subst ho;exact h1 o rfl h2
 have hput:∀a:Int,0<=a->(s.put.length:Int)<=4*a:=λa h=>by rw[hs];show (0:Int)<=_;omega
 unfold nC at h ⊢;refine key _ ?_ (λo ho=>?_) h
 .split
  .rename_i hsg;have:op+2<=en:=by
    by_cases he:en=op+1
    .exfalso;rw[he]at hce;rcases hsg with h|h<;>(obtain⟨c2,k1,k2⟩:=ku h;rw[hce]at k1;cases k1;rw[Fk ZA (by decide)]at k2;cases k2)
    omega
   obtain⟨o,h3,_⟩:=JL (l:=l) (op:=op) (en:=en) (sz:=0) (r:=0) hl h2 (l.length+1) ((at? l (op+1)).getD Xi).2.2.1 (op+2) s (by omega) this (hput _ (by omega)) (by omega);exact⟨o,h3⟩
  obtain⟨o,h3,_⟩:=JL (l:=l) (op:=op) (en:=en) (sz:=0) (r:=0) hl h2 (l.length+1) [43] (op+1) s (by omega) h1 (hput _ (by omega)) (by omega);exact⟨o,h3⟩
 split at ho
 .rename_i hsg;have:op+2<=en:=by
   by_cases he:en=op+1
   .exfalso;rw[he]at hce;rcases hsg with h|h<;>(obtain⟨c2,k1,k2⟩:=ku h;rw[hce]at k1;cases k1;rw[Fk ZA (by decide)]at k2;cases k2)
   omega
  exact Fp h2 _ _ _ _ o (by omega) this ho
 exact Fp h2 _ _ _ _ o (by omega) h1 ho
theorem HK {l:List Tok}{op sz:Int}(hl:l.length<=200000)(h0:0<=op)(h1:op<l.length)(h:(oS l op sz).2.2.1=0):op<(oS l op sz).2.1/\(oS l op sz).2.1<=l.length:=by
 have hnone:∀e f,(jV e f).2.2.1=0->e=0:=λe f h=>h
 unfold oS at h ⊢;split at h
 .rename_i hr;rw[ag hr];split at h
  .rename_i he;exact absurd h he
  rename_i he;have he:(bq l (op+2)).2.2.1=0:=eN.1 he;obtain⟨q1,q2⟩:=uD he;rw[aa (λq=>q he)];split at h
  .rename_i hs;rw[ag hs];obtain⟨c,hc,_⟩:=ku hs;have:=(jo hc).2;show op<(bq l (op+2)).2.1+1/\(bq l (op+2)).2.1+1<=_;omega
  cases h
 rename_i hr;rw[aa hr];split at h
 .cases h
 rename_i en hc;obtain⟨c1,c2,c3⟩:=Ca (by omega) (by omega) hc;have key:∀o,(∀b,o.1=b->b=true->o.2.1=0/\o.2.2.1=0)->(Fl l op en sz o).2.2.1=0->(Fl l op en sz o).2.1=en+1\/(o.1=false/\o.2.1=0):=λo _ h=>by
  unfold Fl at h ⊢;split at h
  .rename_i ho;exact .inr ⟨ho,h⟩
  rename_i ho;rw[aa ho];left
  split at h
  .rename_i hp;rw[ag hp];split at h
   .rename_i hm;rw[ag hm];rfl
   cases h
  rename_i hp;rw[aa hp];split at h
  .rename_i he;exact absurd h he
  rename_i he;rw[aa he];split at h
  .cases h
  rename_i hq;rw[aa hq];split at h
  .rename_i hm;rw[ag hm];rfl
  cases h
 rcases key (nC l op en TB) (λb hb ht=>Rk (hb.trans ht)) h with hk|⟨k1,k2⟩
 .show op<(Fl l op en sz (nC l op en TB)).2.1/\(Fl l op en sz (nC l op en TB)).2.1<=_;rw[hk];omega
 exact absurd k2 (Xy hl rfl h0 c1 c2 c3 k1)
theorem CK {l:List Tok}{a:Int}(hl:l.length<=200000)(h:(bD l a).2.2.1=0):0<=a/\a<(bD l a).2.1/\(bD l a).2.1<=l.length:=by
 have Mw:(C7 (bq l a)).2.2.1=0->a<(C7 (bq l a)).2.1/\(C7 (bq l a)).2.1<=l.length:=λh=>by
  unfold C7 at h ⊢;split at h
  .rename_i he;exact absurd h he
  rename_i he;rw[aa he];exact uD (eN.1 he)
 unfold bD at h ⊢;split at h
 .cases h
 rename_i h0;rw[aa h0];refine⟨by omega,?_⟩;cases jG:at? l a with
 |none=>rw[jG]at h;exact Mw h
 |some t =>
  rw[jG]at h;have hlt:=(jo jG).2;simp only at h ⊢;cases hr:qo rp t with
  |some r=>show a<a+1/\a+1<=_;omega
  |none =>
   rw[hr]at h;simp only at h ⊢;split at h
   .rename_i hw;rw[ag hw];split at h
    .rename_i hs;rw[ag hs];obtain⟨c,hc,_⟩:=ku hs;have:=(jo hc).2;have:=HK hl (by omega) this h;omega
    cases h
   rename_i hw;rw[aa hw];split at h
   .rename_i hs;rw[ag hs];exact HK hl (by omega) hlt h
   rename_i hs;rw[aa hs];exact Mw h
theorem HL {l:List Tok}{op hint:Int}(hl:l.length<=200000){m:Nat}{J:Nat->Int->List Raw->rV}{a:Int}{args:List Raw}(hn:args.length<=3)
 (ih:∀b,args.length+1<=3->∃c,Mv l op hint m b (args++[C8 op (bD l a).1])=some c/\J (args.length+1) b (args++[C8 op (bD l a).1])=uF c):∃c,Mv l op hint (m+1) a args=some c/\JP l op hint J a args=uF c:=by
 unfold JP;simp only;rw[dS hl,dS (show args.length+1<=2000000 by omega)];have Qn:∀X:Raw->rV,(ah (bI (bD l a).1.1 3) (ah (tI op) (X (4,(bD l a).1.2)) (X (bD l a).1)) (X (bD l a).1))=X (C8 op (bD l a).1):=λX=>by
  rw[cq];unfold C8;by_cases h3:(bD l a).1.1=3
  .rw[ag h3];cases tI op with
   |true=>rw[ag ⟨h3,rfl⟩]
   |false=>rw[aa (show ¬((bD l a).1.1=3/\false=true) from λh=>by cases h.2)]
  rw[aa h3,aa (show ¬((bD l a).1.1=3/\tI op=true) from λh=>h3 h.1)]
 have hX:=Qn (λraw=>ah true (ah (bI (bD l a).2.1 l.length) (uF (op,hint,args++[raw],0,0))
  (ah (!bC (bD l a).2.1 0) (ah (!dI l (bD l a).2.1 [44]) (uF (NK 4 (bD l a).2.1)) (ah (bI ((args.length+1:Nat):Int) 4) (uF (NK 3 (bD l a).2.1))
   (J (args.length+1) (IntKind.wrap .i64 ((bD l a).2.1+1)) (args++[raw])))) none)) none)
 refine(cr (λz=>∃c,Mv l op hint (m+1) a args=some c/\ah true (ah (!bI (bD l a).2.2.1 0) (uF (NK (bD l a).2.2.1 (bD l a).2.2.2)) z) none=uF c) hX).mpr ?_;unfold Mv;show ∃c,_/\ah (!bI (bD l a).2.2.1 0) _ _=_;rw[cn];by_cases he:(bD l a).2.2.1=0
 .obtain ⟨q0,q1,q2⟩:=CK hl he;rw[ag he,aa (show ¬(bD l a).2.2.1≠0 from λh=>h he)];show ∃c,_/\ah (bI (bD l a).2.1 l.length) _ _=_;rw[cq];by_cases h1:(bD l a).2.1=l.length
  .rw[ag h1,ag h1];exact⟨_,rfl,rfl⟩
  rw[aa h1,aa h1,fL (by omega),i64_in (n:=(bD l a).2.1+1) (by omega) (by omega)];show ∃c,_/\ah (!dI l (bD l a).2.1 [44]) _ _=_;cases dI l (bD l a).2.1 [44] with
  |false=>exact⟨_,rfl,rfl⟩
  |true =>
   rw[aa (show ¬true=false by decide)];show ∃c,_/\ah (bI ((args.length+1:Nat):Int) 4) _ _=_;rw[cq];by_cases h4:args.length+1=4
   .rw[ag h4,ag (by omega)];exact⟨_,rfl,rfl⟩
   rw[aa h4,aa (by omega)];exact ih _ (by omega)
 rw[aa he,ag he];exact⟨_,rfl,rfl⟩
theorem JS {l:List Tok}{op hint:Int}(hl:l.length<=200000){r:Nat}:∀(m:Nat) (a:Int) (args:List Raw),args.length<=3->4<=args.length+m->∃c,Mv l op hint m a args=some c/\Rn l op hint r m args.length a args=uF c
 |0,a,args,h1,h2=>by omega
 |m+1,a,args,h1,h2=>by
  rw[JQ];refine HL hl h1 λb hb=>?_
  have:=JS (op:=op) (hint:=hint) hl (r:=r) m b (args++[C8 op (bD l a).1]) (by simp;omega) (by simp;omega);rw[show (args++[C8 op (bD l a).1]).length=args.length+1 by simp]at this;exact this
theorem abm {l:List Tok}{op hint:Int}(hl:l.length<=200000){r:Nat}(a:Int):Xw l op hint r 5 a=uF ((Mv l op hint 5 a []).getD (NK 0 0)):=by
 rw[abl];obtain⟨c,h1,h2⟩:=HL (l:=l) (op:=op) (hint:=hint) hl (m:=4) (J:=λn a args=>Rn l op hint r 4 n a args) (a:=a) (args:=[]) (by simp) λb hb=>JS (op:=op) (hint:=hint) hl (r:=r) 4 b ([]++[C8 op (bD l a).1]) (by simp) (by simp)
 rw[h1];exact h2
theorem agO {l:List Tok}{a:Int}(hl:l.length<=200000):cmT l a (λop hint b=>Xw l op hint 5 5 b)=uF (eA l a):=by
 unfold cmT eA;rw[cA,cA];by_cases h0:a<0
 .rw[ag h0,ag (.inl h0)]
 rw[aa h0,fL (by omega)];by_cases h1:(l.length:Int)<a
 .rw[ag h1,ag (.inr h1)]
 rw[aa h1,aa (show ¬(a<0\/(l.length:Int)<a) by omega)];show ah (!(Kn l a).2) _ _=_;cases (Kn l a).2 with
 |false=>rfl
 |true =>
  rw[aa (show ¬true=false by decide)];show ah (bC (IntKind.wrap .i64 (a+1)) l.length) _ _=_;rw[i64_in (n:=a+1) (by omega) (by omega),i64_in (n:=a+1+1) (by omega) (by omega),cA,getI_at?];have go:∀hint b:Int,(if hint=0 then a+1 else a+2)=b->(ah (bI b l.length) (uF ((Kn l a).1,hint,[],0,0)) (Xw l (Kn l a).1 hint 5 5 b))=uF (TC l (Kn l a).1 hint a):=λhint b hb=>by
   unfold TC;rw[hb,cq,abm hl];split<;>rfl
  have h0:=go 0 (a+1) rfl;cases jG:at? l (a+1) with
  |none =>
   have:=jz (by omega) jG;have hh:sV l a=0:=by unfold sV;rw[jG]
   rw[aa (by omega),hh];exact h0
  |some t =>
   have hh:sV l a=(pU t).2:=by unfold sV;rw[jG]
   rw[ag (jo jG).2,hh];show ah (!bI (pU t).2 0) _ _=_;rw[cn];by_cases hw:(pU t).2=0
   .rw[ag hw,hw];exact h0
   rw[aa hw];exact go _ _ (by rw[aa hw];omega)
def gCm (args:List AV):Option (Bool×List AV) :=
 match args with
 |[L,.int .i64 a]=>match G9 dL L with
  |some l=>some (Nat.ble l.length 200000,alP (eA l a))
  |none=>none
 |_=>none
theorem PB:gy X0 fU 77 ⟨none,[none,none],gV gCm⟩ :=
 Rl rfl CJ adY sgC λvs ws hf=>by
  unfold gCm at hf;split at hf;case h_2=>cases hf
  rename_i L a;split at hf;case h_2=>cases hf
  rename_i l hl;simp only[aq,ay]at hf;obtain⟨g0,rfl⟩:=hf;have g0:=az g0;refine⟨rfl,Mu,5,?_⟩;rw[iE hl,JR,agO g0];rfl
def NC:List pQ:=(77,⟨none,[none,none],gV gCm⟩)::NQ
theorem Xz:gY X0 fU NC:=.cons PB adY
end
end Go.Proofs.YtbeckacfibledaaGreatDoor.ps
