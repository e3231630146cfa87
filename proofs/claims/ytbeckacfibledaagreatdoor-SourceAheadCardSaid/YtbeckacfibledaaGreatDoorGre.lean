/- Places: all terms. Places: the contract of place. Operands and instructions: the contracts of Operand and Command. -/
import Derived.Test.YtbeckacfibledaaGreatDoorGrd
set_option linter.unusedVariables false
set_option linter.unusedSimpArgs false

namespace Go.Proofs.YtbeckacfibledaaGreatDoor.ps
open Go.Tv Go.Ev Go.Px Go.Pp Go.Proofs.YtbeckacfibledaaGreatDoor.ex
set_option maxRecDepth 100000
noncomputable section
def NO:List pI:=(170,cTm fOn [none,none,none])::NS
theorem adq:gR X0 fR NO:=.cons af6 adp
def ao2 (l:List Tok)(op en sz:Int)(n:Nat)(s:TS)(e f:Int):aG:=aar [.cells 212 [.dH dL l,.int .i64 op,.int .i64 en,.int .i64 s.bc,.int .i64 s.bn,.int .i64 s.ic,.int .i64 s.ix,.int .i64 s.sc,.int .i64 0,.int .i64 sz,.own 1 n,.own 2 0,.int .i64 e,.int .i64 f],.list 81 dL s.put 0 false false,.list 76 eC [] 0 false false]
def pAl:List Bool:=[true,true,true,false]
def af7:ez:=⟨gZ [0,3,4] pAl,.none,[]⟩
def jAl (l:List Tok)(op en sz:Int)(r m:Nat)(sg:List UInt8)(a:Int)(s:TS)(e f:Int)(n:Nat):dZ:=iH X0 (cN P2 NO _) af7 r 158 pAl (Tb [none]) m (lq 60 [(0,.ptr 0 0),(3,.int .i64 a),(4,.str sg)]) (ao2 l op en sz n s e f)
def stB (l:List Tok)(en a:Int):Bool:=Nat.ble l.length 2000000 && !bB a 1 && !bB en a && !bB l.length en
def onB (l:List Tok)(en a b:Int)(s:TS):Bool:=Nat.ble l.length 200000 && !bB a 0 && !bB b a && !bB en b&&bB en l.length && !bB (4*a) s.put.length
def Pd (l:List Tok)(op en sz:Int)(J:List UInt8->Int->TS->Int->Int->Nat->dZ)(sg:List UInt8)(a:Int)(s:TS)(e f:Int):dZ :=
 ah (stB l en a&&(bI e 0&&bI f 0)&&true) (ah (onB l en a (fN l a en) s&&true&&true)
  (ah (!(mQ rp l sg a (fN l a en) s).1) (lf (.bool false) l op en sz (mQ rp l sg a (fN l a en) s).2.2.2 (mQ rp l sg a (fN l a en) s).2.1 (mQ rp l sg a (fN l a en) s).2.2.1 (mQ rp l sg a (fN l a en) s).2.2.2.put.length)
   (ah (bI (fN l a en) en) (lf (.bool true) l op en sz (mQ rp l sg a (fN l a en) s).2.2.2 (mQ rp l sg a (fN l a en) s).2.1 (mQ rp l sg a (fN l a en) s).2.2.1 (mQ rp l sg a (fN l a en) s).2.2.2.put.length)
    (Option.rec (motive:=λ_=>dZ) none (λy=>J y.2.2.1 (IntKind.wrap .i64 (fN l a en+1)) (mQ rp l sg a (fN l a en) s).2.2.2 (mQ rp l sg a (fN l a en) s).2.1 (mQ rp l sg a (fN l a en) s).2.2.1 (mQ rp l sg a (fN l a en) s).2.2.2.put.length) (dQ l (fN l a en))))) none) none
theorem af9 (l:List Tok)(op en sz:Int)(r m:Nat)(sg:List UInt8)(a:Int)(bc bn ic ix sc:Int)(put:List Tok)(e f:Int)(n:Nat):jAl l op en sz r (m+1) sg a ⟨bc,bn,ic,ix,sc,put⟩ e f n=Pd l op en sz (jAl l op en sz r m) sg a ⟨bc,bn,ic,ix,sc,put⟩ e f:=by kernel_rfl
def W6 (l:List Tok)(op:Int)(J:List UInt8->Int->dZ):dZ :=
 (λyes:dZ=>ah (!bB (IntKind.wrap .i64 (op+1)) 0) (ah (dI l (IntKind.wrap .i64 (op+1)) [43]) yes (ah (!bB (IntKind.wrap .i64 (op+1)) 0) (ah (dI l (IntKind.wrap .i64 (op+1)) [45]) yes (J [43] (IntKind.wrap .i64 (op+1)))) none)) none)
  (Option.rec (motive:=λ_=>dZ) none (λy=>J y.2.2.1 (IntKind.wrap .i64 (IntKind.wrap .i64 (op+1)+1))) (dQ l (IntKind.wrap .i64 (op+1))))
theorem aaI (l:List Tok)(op en sz:Int)(r:Nat)(bc bn ic ix sc:Int)(put:List Tok):aT X0 (cN P2 NO _) af7 r 158 [.ptr 0 0] (ji 212 14 (BS l op en sz ⟨bc,bn,ic,ix,sc,put⟩ 0 0++[])) (Tb [none])=W6 l op (λsg a=>jAl l op en sz r r sg a ⟨bc,bn,ic,ix,sc,put⟩ 0 0 put.length):=by kernel_rfl
theorem Av (e:Int):∀(r:List Tok) (p:Tok) (a d:Int),a+r.length=e->a<=tw e p r a d/\tw e p r a d<=e
 |[],p,a,d,h=>by
  have h:a+0=e:=h;unfold tw;omega
 |t::r,p,a,d,h=>by
  have hl:(a+1)+r.length=e:=by simp at h;omega
  unfold tw;have i1:=Av e r t (a+1) (d+1) hl;have i2:=Av e r t (a+1) (if 0<d-1 then d-1 else 0) hl;have i3:=Av e r t (a+1) d hl;split
  .omega
  split
  .omega
  split<;>omega
theorem Aw {l:List Tok}{a e:Int}(h0:0<=a)(h1:a<=e)(h2:e<=l.length):a<=fN l a e/\fN l a e<=e:=by
 unfold fN;exact Av e _ _ _ _ (by rw[bQ,bY];omega)
theorem aaJ {l:List Tok}{sg:List UInt8}{a b:Int}{s:TS}(h:(mQ rp l sg a b s).1=true):(mQ rp l sg a b s).2.1=0/\(mQ rp l sg a b s).2.2.1=0:=by
 have key:∀o:qK,(∃s e f,o=lF s e f)\/(∃s,o=okO s)->o.1=true->o.2.1=0/\o.2.2.1=0:=λo ho h=>by
  rcases ho with⟨s,e,f,rfl⟩|⟨s,rfl⟩
  .cases h
  exact⟨rfl,rfl⟩
 have hal:∀r,(∃s' e f,mH sg r a s=lF s' e f)\/(∃s',mH sg r a s=okO s'):=λr=>by
  unfold mH;split
  .exact .inl ⟨_,_,_,rfl⟩
  split
  .exact .inr ⟨_,rfl⟩
  split
  .exact .inr ⟨_,rfl⟩
  exact .inl ⟨_,_,_,rfl⟩
 have hsc:∀r num n,(∃s' e f,iZ sg r a num n s=lF s' e f)\/(∃s',iZ sg r a num n s=okO s'):=λr num n=>by
  unfold iZ;split
  .exact .inl ⟨_,_,_,rfl⟩
  split
  .exact .inr ⟨_,rfl⟩
  exact .inl ⟨_,_,_,rfl⟩
 refine key _ ?_ h;unfold mQ;split
 .exact .inl ⟨_,_,_,rfl⟩
 split
 .split
  .split
   .exact hal _
   split
   .exact hal _
   exact .inr ⟨_,rfl⟩
  exact .inl ⟨_,_,_,rfl⟩
 split
 .split
  .split
   .split
    .exact hsc _ _ _
    split
    .exact hsc _ _ _
    exact .inr ⟨_,rfl⟩
   .split
    .exact hsc _ _ _
    exact .inr ⟨_,rfl⟩
   .split
    .exact hsc _ _ _
    exact .inr ⟨_,rfl⟩
   exact .inr ⟨_,rfl⟩
  exact .inl ⟨_,_,_,rfl⟩
 exact .inr ⟨_,rfl⟩
theorem Mg {l:List Tok}{sg:List UInt8}{a b:Int}{s:TS}(h0:0<=a)(hab:a<=b):((mQ rp l sg a b s).2.2.2.put.length:Int)<=s.put.length+3+(b-a):=by
 have hal:∀r,((mH sg r a s).2.2.2.put.length:Int)<=s.put.length+3+(b-a):=λr=>by
  have:(mH sg r a s).2.2.2.put=s.put:=by
   unfold mH;split
   .rfl
   split
   .rfl
   split<;>rfl
  rw[this];omega
 have hsc:∀r num n,((iZ sg r a num n s).2.2.2.put.length:Int)<=s.put.length+3+(b-a):=λr num n=>by
  have:(iZ sg r a num n s).2.2.2.put=s.put:=by
   unfold iZ;split
   .rfl
   split<;>rfl
  rw[this];omega
 have hot:((qV l sg a b s).2.2.2.put.length:Int)<=s.put.length+3+(b-a):=by
  have hc:(OY l a b).length<=(b-a).toNat:=by unfold OY;rw[bY];omega
  unfold qV okO;simp only[aA,aJ,bz];split
  .simp only[aA,aJ,bz];omega
  omega
 have hf:∀e f,((lF s e f).2.2.2.put.length:Int)<=s.put.length+3+(b-a):=λe f=>by show (s.put.length:Int)<=_;omega
 unfold mQ;split
 .exact hf _ _
 split
 .split
  .split
   .exact hal _
   split
   .exact hal _
   exact hot
  exact hf _ _
 split
 .split
  .split
   .split
    .exact hsc _ _ _
    split
    .exact hsc _ _ _
    exact hot
   .split
    .exact hsc _ _ _
    exact hot
   .split
    .exact hsc _ _ _
    exact hot
   exact hot
  exact hf _ _
 exact hot
theorem Jw {l:List Tok}{op en sz:Int}{r:Nat}(hl:l.length<=200000)(hel:en<l.length):∀(m:Nat) (sg:List UInt8) (a:Int) (s:TS),1<=a->a<=en->(s.put.length:Int)<=4*a->en-a<m ->
 ∃o,oL rp l en m sg a s=some o/\jAl l op en sz r m sg a s 0 0 s.put.length=lfO l op en sz o
 |0,sg,a,s,h1,h2,h3,h4=>by omega
 |m+1,sg,a,s,h1,h2,h3,h4=>by
  obtain⟨b1,b2⟩:=Aw (l:=l) (a:=a) (e:=en) (by omega) h2 (by omega);have hst:stB l en a=true:=by
   unfold stB;rw[dS (by omega),fH h1,fH h2,fH (show en<=(l.length:Int) by omega)];rfl
  have hon:onB l en a (fN l a en) s=true:=by
   unfold onB;rw[dS hl,fH (show 0<=a by omega),fH b1,fH b2,qG hel,fH h3];rfl
  have hstep:=af9 l op en sz r m sg a s.bc s.bn s.ic s.ix s.sc s.put 0 0 s.put.length;have hstep:jAl l op en sz r (m+1) sg a s 0 0 s.put.length=Pd l op en sz (jAl l op en sz r m) sg a s 0 0:=hstep;rw[hstep];unfold Pd;rw[hst,hon];have hgo:oL rp l en (m+1) sg a s=match mQ rp l sg a (fN l a en) s with
   |(true,_,_,s')=>if fN l a en=en then some (okO s') else match at? l (fN l a en) with
    |some t=>oL rp l en m t.2.2.1 (fN l a en+1) s'
    |none=>none
   |(false,x,f,s')=>some (lF s' x f):=rfl
  rw[hgo];have hok:=aaJ (l:=l) (sg:=sg) (a:=a) (b:=fN l a en) (s:=s);have hput:=Mg (l:=l) (sg:=sg) (a:=a) (b:=fN l a en) (s:=s) (by omega) b1;generalize hO:mQ rp l sg a (fN l a en) s=o at hok hput;obtain⟨ob,oe,of,os⟩:=o;cases ob with
  |false=>exact⟨_,rfl,rfl⟩
  |true =>
   obtain⟨rfl,rfl⟩:=hok rfl;simp only at hput ⊢;show ∃o,_/\ah (bI (fN l a en) en) _ _=_;rw[cq];by_cases hb:fN l a en=en
   .rw[ag hb,ag hb];exact⟨_,rfl,rfl⟩
   rw[aa hb,aa hb,getI_at?];obtain⟨t,ht⟩:∃t,at? l (fN l a en)=some t:=by
    cases jx:at? l (fN l a en) with
    |some t=>exact⟨t,rfl⟩
    |none=>have:=ju (by omega) jx;omega
   rw[ht];simp only;rw[i64_in (n:=fN l a en+1) (by omega) (by omega)];exact Jw hl hel m t.2.2.1 (fN l a en+1) os (by omega) (by omega) (by omega) (by omega)
def nr (l:List Tok)(op en:Int)(s:TS):qK :=
 (if dI l (op+1) [43]=true\/dI l (op+1) [45]=true then oL rp l en (l.length+1) ((at? l (op+1)).getD WR).2.2.1 (op+2) s
  else oL rp l en (l.length+1) [43] (op+1) s).getD (lF s 0 0)
def fAl:FTm:=λl op en s args=>match args with
 |[]=>some (Nat.ble l.length 200000 && !bB op 0 && !bB en (op+1)&&bB en l.length&&s.put.isEmpty&&dI l en [93],((nr l op en s).2.1,(nr l op en s).2.2.1,(nr l op en s).2.2.2),[.val (.bool (nr l op en s).1)])
 |_=>none
theorem kg {l:List Tok}{a:Int}{t:List UInt8}(h:dI l a t=true):∃c,at? l a=some c/\pO c t=true:=by
 unfold dI at h;split at h
 .rename_i c hc;exact⟨c,hc,h⟩
 cases h
theorem E8 {c:Tok}{s t:List UInt8}(h:pO c s=true)(hne:s≠t):pO c t=false:=by
 unfold pO at h ⊢;simp only[ak,aV]at h;rw[aX h.1,h.2,aU hne];rfl
theorem aga:gq X0 fR 158 (cTm fAl []) :=
 O9 rfl Cv adq (tQ:=[none]) λl op en sz s args q rs hF hal=>by
  unfold fAl at hF;split at hF;case h_2=>cases hF
  simp only[aq,ax,ak,aS]at hF;obtain⟨⟨⟨⟨⟨⟨g0,g1⟩,g2⟩,g3⟩,g4⟩,g5⟩,rfl,rfl⟩:=hF;have g0:=ay g0;have g1:=Jr g1;have g2:=Jr g2;have g3:en<l.length:=by rw[cA]at g3;simpa using g3
  have g4:s.put=[]:=gU.1 g4;refine⟨[],[.bool (nr l op en s).1],af7,l.length+1,rfl,rfl,?_⟩;have h1:=aaI l op en sz (l.length+1) s.bc s.bn s.ic s.ix s.sc s.put;refine h1.trans ?_;unfold W6;simp only;rw[i64_in (n:=op+1) (by omega) (by omega),fH (show (0:Int)<=op+1 by omega),i64_in (n:=op+1+1) (by omega) (by omega),getI_at?];obtain⟨c,hc⟩:∃c,at? l (op+1)=some c:=by
   cases jx:at? l (op+1) with
   |some t=>exact⟨t,rfl⟩
   |none=>have:=ju (by omega) jx;omega
  have go:∀(sg:List UInt8) (a:Int),op+1<=a->a<=en->nr l op en s=((oL rp l en (l.length+1) sg a s).getD (lF s 0 0))->jAl l op en sz (l.length+1) (l.length+1) sg a s 0 0 s.put.length=some (BS l op en sz (nr l op en s).2.2.2 (nr l op en s).2.1 (nr l op en s).2.2.1++[AV.bool (nr l op en s).1].map fK.val,[(nr l op en s).2.2.2.put.length,0]):=λsg a h1 h2 h3=>by
   obtain⟨o,e1,e2⟩:=Jw (l:=l) (op:=op) (en:=en) (sz:=sz) (r:=l.length+1) g0 g3 (l.length+1) sg a s (by omega) h2 (by rw[g4];show (0:Int)<=_;omega) (by omega);rw[e2,h3,e1];rfl
  obtain⟨ce,hce,Y6⟩:=kg g5;have hne:(dI l (op+1) [43]=true\/dI l (op+1) [45]=true)->op+2<=en:=λh=>by
   by_cases he:en=op+1
   .exfalso;rw[he]at hce;rcases h with h|h<;>(obtain⟨c2,k1,k2⟩:=kg h;rw[hce]at k1;cases k1;rw[E8 Y6 (by decide)]at k2;cases k2)
   omega
  rw[hc];by_cases hs:dI l (op+1) [43]=true\/dI l (op+1) [45]=true
  .have hy:=go c.2.2.1 (op+1+1) (by omega) (by have:=hne hs;omega) (by unfold nr;rw[ag hs,hc,show op+1+1=op+2 by omega];rfl);cases h43:dI l (op+1) [43] with
   |true=>exact hy
   |false =>
    cases h45:dI l (op+1) [45] with
    |true=>exact hy
    |false=>rw[h43,h45]at hs;simp at hs
  have hn:=go [43] (op+1) (by omega) (by omega) (by unfold nr;rw[aa hs]);simp only[kL,eB]at hs;rw[hs.1,hs.2];exact hn
def NA:List pI:=(158,cTm fAl [])::NO
theorem adr:gR X0 fR NA:=.cons aga adq
abbrev W7:=Raw×Int×Int×Int
abbrev jV:Tv.Ty:=.pair (.int .i64) (.pair (.pair (.int .i64) (.int .i64)) (.pair (.pair (.pair (.int .i64) (.int .i64)) (.pair (.pair (.int .i64) (.int .i64)) (.pair (.int .i64) (.pair (.int .i64) (.int .i64))))) (.pair (.sl eC) .bool)))
def ao6:Raw:=(0,(0,0),((0,0),(0,0),0,0,0),[],false)
def jN (e f:Int):W7:=(ao6,0,e,f)
def Td (r:Raw):List AV:=[.int .i64 r.1,.int .i64 r.2.1.1,.int .i64 r.2.1.2,.int .i64 r.2.2.1.1.1,.int .i64 r.2.2.1.1.2,.int .i64 r.2.2.1.2.1.1,.int .i64 r.2.2.1.2.1.2,.int .i64 r.2.2.1.2.2.1,.int .i64 r.2.2.1.2.2.2.1,.int .i64 r.2.2.1.2.2.2.2,.dH eC r.2.2.2.1,.bool r.2.2.2.2]
def aaK (r:W7):List AV:=[.agg (Td r.1),.int .i64 r.2.1,.agg [.int .i64 r.2.2.1,.int .i64 r.2.2.2]]
abbrev rL:=Option (List AV)
def pK (r:W7):rL:=some (aaK r)
def sgR:List (List (Option Tv.Ty)):=[[none,none,none,none,none,none,none,none,none,none,some eC,none],[none],[none,none]]
def ala (p:List Nd×Int×Int×Int)(sz:Int):W7:=((2,(0,0),((8,0),(0,0),0,0,sz),p.1,true),p.2.1+1,0,0)
def agb (s:TS)(sz en:Int)(x:List Nd):W7:=((2,(0,0),((s.bc,s.bn),(s.ic,s.ix),s.sc,0,sz),x,false),en+1,0,0)
def Te:TS:=⟨0,0,0,0,0,[]⟩
def E9 (l:List Tok)(op en sz:Int)(o:qK):W7 :=
 if o.1=false then jN o.2.1 o.2.2.1
 else if o.2.2.2.put=[] then (if Mc o.2.2.2.bc o.2.2.2.bn o.2.2.2.ic o.2.2.2.ix o.2.2.2.sc 0 sz=0 then agb o.2.2.2 sz en [] else jN 2 op)
 else if (bq o.2.2.2.put 0).2.2.1≠0 then jN (bq o.2.2.2.put 0).2.2.1 op
 else if (bq o.2.2.2.put 0).2.1<o.2.2.2.put.length then jN 4 op
 else if Mc o.2.2.2.bc o.2.2.2.bn o.2.2.2.ic o.2.2.2.ix o.2.2.2.sc 0 sz=0 then agb o.2.2.2 sz en (bq o.2.2.2.put 0).1 else jN 2 op
def oM (l:List Tok)(op sz:Int):W7 :=
 if qU ((at? l (op+1)).getD WR) [114,101,108]=true then
  if (bq l (op+2)).2.2.1≠0 then jN (bq l (op+2)).2.2.1 (bq l (op+2)).2.2.2
  else if dI l (bq l (op+2)).2.1 [93]=true then ala (bq l (op+2)) sz else jN 4 (bq l (op+2)).2.1
 else match mG l (op+1) with
  |none=>jN 4 l.length
  |some en=>E9 l op en sz (nr l op en Te)
def flP (o:qK)(e op:Int):rL:=ah (bI o.2.1 0) (pK (jN e op)) (pK (jN o.2.1 o.2.2.1))
def ckP (l:List Tok)(op en sz:Int)(o:qK)(x:List Nd):rL :=
 ah (!bI (Mc o.2.2.2.bc o.2.2.2.bn o.2.2.2.ic o.2.2.2.ix o.2.2.2.sc 0 sz) 0) (flP o 2 op) (pK ((2,(0,0),((o.2.2.2.bc,o.2.2.2.bn),(o.2.2.2.ic,o.2.2.2.ix),o.2.2.2.sc,0,sz),x,false),IntKind.wrap .i64 (en+1),0,0))
def EY (l:List Tok)(op en sz:Int)(o:qK):rL :=
 ah (!o.1) (pK (jN o.2.1 o.2.2.1)) (ah (bI o.2.2.2.put.length 0) (ckP l op en sz o [])
  (ah (Nat.ble o.2.2.2.put.length 2000000) (ah (!bI (bq o.2.2.2.put 0).2.2.1 0) (flP o (bq o.2.2.2.put 0).2.2.1 op)
   (ah (bB (bq o.2.2.2.put 0).2.1 o.2.2.2.put.length) (flP o 4 op) (ckP l op en sz o (bq o.2.2.2.put 0).1))) none))
def alB (l:List Tok)(op en:Int):Bool:=Nat.ble l.length 200000 && !bB op 0 && !bB en (op+1)&&bB en l.length&&true&&dI l en [93]
def plT (l:List Tok)(op sz:Int):rL :=
 (λrel cl:rL=>ah (bB (IntKind.wrap .i64 (op+1)) l.length) (Option.rec (motive:=λ_=>rL) none (λy=>ah (qU y [114,101,108]) rel cl) (dQ l (IntKind.wrap .i64 (op+1)))) cl)
  (ah (Nat.ble l.length 2000000) (ah (!bI (bq l (IntKind.wrap .i64 (op+2))).2.2.1 0) (pK (jN (bq l (IntKind.wrap .i64 (op+2))).2.2.1 (bq l (IntKind.wrap .i64 (op+2))).2.2.2))
   (ah (!bB (bq l (IntKind.wrap .i64 (op+2))).2.1 0) (ah (!dI l (bq l (IntKind.wrap .i64 (op+2))).2.1 [93]) (pK (jN 4 (bq l (IntKind.wrap .i64 (op+2))).2.1))
    (pK ((2,(0,0),((8,0),(0,0),0,0,sz),(bq l (IntKind.wrap .i64 (op+2))).1,true),IntKind.wrap .i64 ((bq l (IntKind.wrap .i64 (op+2))).2.1+1),0,0))) none)) none)
  (ah (Nat.ble l.length 2000000 && !bB (IntKind.wrap .i64 (op+1)) 0 && !bB l.length (IntKind.wrap .i64 (op+1))) (ah (!(mG l (IntKind.wrap .i64 (op+1))).isSome) (pK (jN 4 l.length))
   (ah (alB l op ((mG l (IntKind.wrap .i64 (op+1))).getD 0)&&true&&true) (EY l op ((mG l (IntKind.wrap .i64 (op+1))).getD 0) sz (nr l op ((mG l (IntKind.wrap .i64 (op+1))).getD 0) Te)) none)) none)
theorem aaL (l:List Tok)(op sz:Int):aT X0 (cN P2 NA _) gG 5 145 [.dH dL l,.int .i64 op,.int .i64 sz] aG.empty (rK sgR)=plT l op sz:=by kernel_rfl
theorem Hv {e:Int}:∀(r:List Tok) (a d:Int),qe r a d=some e->a<=e/\e<a+r.length/\∃c,at? r (e-a)=some c/\pO c [93]=true
 |[],a,d,h=>by cases h
 |t::r,a,d,h=>by
  have step:∀d',qe r (a+1) d'=some e->a<=e/\e<a+(t::r).length/\∃c,at? (t::r) (e-a)=some c/\pO c [93]=true:=λd' h=>by
   obtain⟨h1,h2,c,h3,h4⟩:=Hv r (a+1) d' h;refine⟨by omega,by simp;omega,c,?_,h4⟩;obtain⟨k,hk⟩:∃k:Nat,e-(a+1)=k:=⟨(e-(a+1)).toNat,by omega⟩;rw[show e-a=((k+1:Nat):Int) by omega];rw[hk]at h3;exact h3
  unfold qe at h;split at h
  .exact step _ h
  split at h
  .exact step _ h
  split at h
  .rename_i hc;cases h;refine⟨bE _,by simp;omega,t,?_,hc.2⟩;rw[Int.sub_self];rfl
  exact step _ h
theorem BU {l:List Tok}{a e:Int}(h0:0<=a)(h1:a<=l.length)(h:mG l a=some e):a<=e/\e<l.length/\dI l e [93]=true:=by
 obtain⟨k1,k2,c,k3,k4⟩:=Hv _ _ _ h;rw[bQ]at k2;refine⟨k1,by omega,?_⟩;have:at? l e=some c:=by
  obtain⟨n,hn⟩:∃n:Nat,e-a=n:=⟨(e-a).toNat,by omega⟩;rw[hn]at k3;have k3:(l.drop a.toNat)[n]? = some c:=k3;rw[fT]at k3;rw[show e=((a.toNat+n:Nat):Int) by omega];exact k3
 unfold dI;rw[this];exact k4
theorem ur {l:List Tok}{a:Int}(h:(bq l a).2.2.1=0):a<(bq l a).2.1/\(bq l a).2.1<=l.length:=by
 obtain⟨⟨y,e,f,g⟩,hr⟩:=vr (nm:=bX) l a;have e1:bq l a=(y,e,f,g):=by unfold bq;rw[hr];rfl
 rw[e1]at h ⊢;exact((Ma hr).2 h).2
theorem Jy {l:List Tok}{en:Int}:∀(m:Nat) (sg:List UInt8) (a:Int) (s:TS) (o:qK),oL rp l en m sg a s=some o->o.1=true->o.2.1=0/\o.2.2.1=0
 |0,_,_,_,_,h,_=>by cases h
 |m+1,sg,a,s,o,h,ho=>by
  unfold Pp.oL at h;split at h
  .split at h
   .cases h;exact⟨rfl,rfl⟩
   split at h
   .exact Jy m _ _ _ o h ho
   cases h
  cases h;cases ho
theorem Q2 {l:List Tok}{op en:Int}{s:TS}(h:(nr l op en s).1=true):(nr l op en s).2.1=0/\(nr l op en s).2.2.1=0:=by
 have key:∀r:Option qK,(∀o,r=some o->o.1=true->o.2.1=0/\o.2.2.1=0)->(r.getD (lF s 0 0)).1=true->(r.getD (lF s 0 0)).2.1=0/\(r.getD (lF s 0 0)).2.2.1=0:=λr h1 h2=>by
  cases r with
  |none=>cases h2
  |some o=>exact h1 o rfl h2
 unfold nr at h ⊢;refine key _ (λo ho=>?_) h;split at ho
 .exact Jy _ _ _ _ o ho
 exact Jy _ _ _ _ o ho
theorem Fa {l:List Tok}{en:Int}(hel:en<l.length):∀(m:Nat) (sg:List UInt8) (a:Int) (s:TS) (o:qK),0<=a->a<=en->(s.put.length:Int)<=4*a->oL rp l en m sg a s=some o->(o.2.2.2.put.length:Int)<=4*en+4
 |0,_,_,_,_,_,_,_,h=>by cases h
 |m+1,sg,a,s,o,h0,h1,h2,h=>by
  obtain⟨b1,b2⟩:=Aw (l:=l) (a:=a) (e:=en) h0 h1 (by omega);have hput:=Mg (l:=l) (sg:=sg) (a:=a) (b:=fN l a en) (s:=s) h0 b1;unfold Pp.oL at h;split at h
  .rename_i s' hs;rw[hs]at hput;simp only at hput;split at h
   .cases h;show (s'.put.length:Int)<=_;omega
   split at h
   .exact Fa hel m _ _ _ o (by omega) (by omega) (by omega) h
   cases h
  rename_i x f s' hs;rw[hs]at hput;cases h;show (s'.put.length:Int)<=_;simp only at hput;omega
theorem W8 {l:List Tok}{op en:Int}{s:TS}(h0:0<=op)(h1:op+1<=en)(h2:en<l.length)(hs:s.put=[])(hc:dI l en [93]=true):((nr l op en s).2.2.2.put.length:Int)<=4*en+4:=by
 obtain⟨ce,hce,Y6⟩:=kg hc;have key:∀r:Option qK,(∀o,r=some o->(o.2.2.2.put.length:Int)<=4*en+4)->((r.getD (lF s 0 0)).2.2.2.put.length:Int)<=4*en+4:=λr h=>by
  cases r with
  |none=>show (s.put.length:Int)<=_;rw[hs];show (0:Int)<=_;omega
  |some o=>exact h o rfl
 unfold nr;refine key _ λo ho=>?_
 split at ho
 .rename_i hsg;have:op+2<=en:=by
   by_cases he:en=op+1
   .exfalso;rw[he]at hce;rcases hsg with h|h<;>(obtain⟨c2,k1,k2⟩:=kg h;rw[hce]at k1;cases k1;rw[E8 Y6 (by decide)]at k2;cases k2)
   omega
  exact Fa h2 _ _ _ _ o (by omega) this (by rw[hs];show (0:Int)<=_;omega) ho
 exact Fa h2 _ _ _ _ o (by omega) h1 (by rw[hs];show (0:Int)<=_;omega) ho
theorem aaM {l:List Tok}{op en sz:Int}{o:qK}(hok:o.1=true->o.2.1=0/\o.2.2.1=0)(hp:o.2.2.2.put.length<=2000000)(he:0<=en)(he2:en<=2000000):EY l op en sz o=pK (E9 l op en sz o):=by
 unfold EY E9;cases ho:o.1 with
 |false=>rfl
 |true =>
  obtain⟨h1,h2⟩:=hok ho;have hfl:∀e,flP o e op=pK (jN e op):=λe=>by unfold flP;rw[h1];rfl
  have hck:∀x,ckP l op en sz o x=pK (if Mc o.2.2.2.bc o.2.2.2.bn o.2.2.2.ic o.2.2.2.ix o.2.2.2.sc 0 sz=0 then agb o.2.2.2 sz en x else jN 2 op):=λx=>by
   unfold ckP;rw[cw,hfl,i64_in (n:=en+1) (by omega) (by omega)];split<;>rfl
  show ah (bI o.2.2.2.put.length 0) _ _=_;rw[hck,hck,hfl,hfl,cq,cw,cF,dS hp,aa (show ¬true=false by decide)];by_cases hz:o.2.2.2.put=[]
  .rw[ag (by rw[hz];rfl),ag hz]
  rw[aa (by have:0<o.2.2.2.put.length:=dJ.2 hz;omega),aa hz];show ite _ _ _=_;by_cases h3:(bq o.2.2.2.put 0).2.2.1=0
  .rw[ag h3,aa (show ¬(bq o.2.2.2.put 0).2.2.1≠0 from λh=>h h3)];split<;>rfl
  rw[aa h3,ag h3]
theorem agd {l:List Tok}{op sz:Int}(hl:l.length<=200000)(h0:0<=op)(h1:op<l.length):plT l op sz=pK (oM l op sz):=by
 unfold plT oM;simp only;rw[i64_in (n:=op+1) (by omega) (by omega),i64_in (n:=op+2) (by omega) (by omega),dS (show l.length<=2000000 by omega),fH (show (0:Int)<=op+1 by omega),fH (show op+1<=(l.length:Int) by omega)];have n9:ah (true && !false && !false) (ah (!(mG l (op+1)).isSome) (pK (jN 4 l.length))
  (ah (alB l op ((mG l (op+1)).getD 0)&&true&&true) (EY l op ((mG l (op+1)).getD 0) sz (nr l op ((mG l (op+1)).getD 0) Te)) none)) none=pK (match mG l (op+1) with
  |none=>jN 4 l.length
  |some en=>E9 l op en sz (nr l op en Te)):=by
  cases hc:mG l (op+1) with
  |none=>rfl
  |some en =>
   obtain⟨c1,c2,c3⟩:=BU (by omega) (by omega) hc;have hal:alB l op en=true:=by
    unfold alB;rw[dS hl,fH h0,fH (show op+1<=en by omega),qG c2,c3];rfl
   show ah (alB l op en&&true&&true) _ _=_;rw[hal];show EY l op en sz (nr l op en Te)=_;exact aaM Q2 (by have:=W8 (s:=Te) h0 c1 c2 rfl c3;omega) (by omega) (by omega)
 rw[n9];have hrel:ah true (ah (!bI (bq l (op+2)).2.2.1 0) (pK (jN (bq l (op+2)).2.2.1 (bq l (op+2)).2.2.2))
  (ah (!bB (bq l (op+2)).2.1 0) (ah (!dI l (bq l (op+2)).2.1 [93]) (pK (jN 4 (bq l (op+2)).2.1))
   (pK ((2,(0,0),((8,0),(0,0),0,0,sz),(bq l (op+2)).1,true),IntKind.wrap .i64 ((bq l (op+2)).2.1+1),0,0))) none)) none=pK (if (bq l (op+2)).2.2.1≠0 then jN (bq l (op+2)).2.2.1 (bq l (op+2)).2.2.2
  else if dI l (bq l (op+2)).2.1 [93]=true then ala (bq l (op+2)) sz else jN 4 (bq l (op+2)).2.1):=by
  show ah (!bI (bq l (op+2)).2.2.1 0) _ _=_;rw[cw];by_cases h3:(bq l (op+2)).2.2.1=0
  .obtain ⟨q1,q2⟩:=ur h3;rw[ag h3,aa (show ¬(bq l (op+2)).2.2.1≠0 from λh=>h h3),fH (by omega),i64_in (n:=(bq l (op+2)).2.1+1) (by omega) (by omega)];cases dI l (bq l (op+2)).2.1 [93]<;>rfl
  rw[aa h3,ag h3]
 rw[hrel,getI_at?,cF];cases jx:at? l (op+1) with
 |none =>
  have:=ju (by omega) jx;rw[aa (by omega)];rfl
 |some y =>
  rw[ag (jj jx).2];show ah (qU y [114,101,108]) _ _=pK (if qU y [114,101,108]=true then _ else _);cases qU y [114,101,108]<;>rfl
def gV (f:List AV->Option (Bool×List AV))(ins:List fK):Option (Bool×List fK×List fK) :=
 match Jz ins with
 |some vs=>match f vs with
  |some (c,ws)=>some (c,[],ws.map .val)
  |none=>none
 |none=>none
where Jz:List fK->Option (List AV)
 |[]=>some []
 |.val v::l=>match Jz l with
  |some vs=>some (v::vs)
  |none=>none
 |.list _ _ _::_=>none
theorem qL:∀{ins:List fK} {vs:List AV},gV.Jz ins=some vs->ins=vs.map .val
 |[],vs,h=>by cases h;rfl
 |.val v::l,vs,h=>by
  unfold gV.Jz at h;split at h
  .rename_i vs' h1;cases h;rw[qL h1];rfl
  cases h
 |.list _ _ _::_,_,h=>by cases h
theorem vt:∀(l:List AV) (M:aG),cP M (l.map .val)=M
 |[],_=>rfl
 |_::l,M=>vt l M
theorem Q3 {id:FuncId}(hk:lt.inl id=true){M:List vW}{N:List pI}(hM:iO X0 fR M)(hN:gR X0 fR N){sig:List (Option (TypeId×Tv.Ty))}{f:List AV->Option (Bool×List AV)}(sg:List (List (Option Tv.Ty)))
 (h:∀vs ws,f vs=some (true,ws)->ws.all EN=true/\∃an rounds,aT X0 (cN M N _) an rounds id vs aG.empty (rK sg)=some ws):gq X0 fR id ⟨none,sig,gV f⟩ :=
 Me (nk hk) (jy hM hN) sg λins outs rs hg=>by
  unfold gV at hg;split at hg;case h_2=>cases hg
  rename_i vs hv;split at hg;case h_2=>cases hg
  rename_i c ws hf;simp only[aq,ax]at hg;obtain⟨rfl,_,rfl⟩:=hg;obtain⟨h1,an,rounds,h2⟩:=h vs ws hf;have hi:=qL hv;subst hi;refine⟨an,rounds,ws,?_,rfl,h1⟩;rw[sJ,vt];exact h2
def fPl (args:List AV):Option (Bool×List AV) :=
 match args with
 |[L,.int .i64 op,.int .i64 sz]=>match GM dL L with
  |some l=>some (Nat.ble l.length 200000 && !bB op 0&&bB op l.length,aaK (oM l op sz))
  |none=>none
 |_=>none
theorem Q4 (r:W7):(aaK r).all EN=true:=rfl
theorem age:gq X0 fR 145 ⟨none,[none,none,none],gV fPl⟩ :=
 Q3 rfl Cv adr sgR λvs ws hf=>by
  unfold fPl at hf;split at hf;case h_2=>cases hf
  rename_i L op sz;split at hf;case h_2=>cases hf
  rename_i l hl;simp only[aq,ax,ak,aS]at hf;obtain⟨⟨⟨g0,g1⟩,g2⟩,rfl⟩:=hf;have g0:=ay g0;have g1:=Jr g1;have g2:op<l.length:=by rw[cA]at g2;simpa using g2
  refine⟨Q4 _,gG,5,?_⟩;rw[iy hl,aaL,agd g0 g1 g2];rfl
def NP:List pI:=(145,⟨none,[none,none,none],gV fPl⟩)::NA
theorem ads:gR X0 fR NP:=.cons age adr
def CT (p:List Nd×Int×Int×Int):W7:=if p.2.2.1≠0 then jN p.2.2.1 p.2.2.2 else ((3,(0,0),((0,0),(0,0),0,0,0),p.1,false),p.2.1,0,0)
def ao9 (r:Rg)(a:Int):W7:=((1,r,((0,0),(0,0),0,0,0),[],false),a+1,0,0)
def bC (l:List Tok)(a:Int):W7 :=
 if a<0\/(l.length:Int)<a then jN 2 0 else
 match at? l a with
 |none=>CT (bq l a)
 |some t=>match qf rp t with
  |some r=>ao9 r a
  |none=>if 0<(pJ t).1 then (if dI l (a+1) [91]=true then oM l (a+1) (pJ t).1 else jN 4 (a+1))
   else if dI l a [91]=true then oM l a 0 else CT (bq l a)
def aaN (l:List Tok)(a:Int):rL:=ah (Nat.ble l.length 2000000) (ah (!bI (bq l a).2.2.1 0) (pK (jN (bq l a).2.2.1 (bq l a).2.2.2)) (pK ((3,(0,0),((0,0),(0,0),0,0,0),(bq l a).1,false),(bq l a).2.1,0,0))) none
def plB (l:List Tok)(a:Int):Bool:=Nat.ble l.length 200000 && !bB a 0&&bB a l.length
def T2 (l:List Tok)(a:Int):rL :=
 ah (bB a 0) (pK (jN 2 0)) (ah (bB l.length a) (pK (jN 2 0)) (ah (bB a l.length) (Option.rec (motive:=λ_=>rL) none (λt=>ah (qf rp t).isSome
  (pK ((1,(qf rp t).getD (0,0),((0,0),(0,0),0,0,0),[],false),IntKind.wrap .i64 (a+1),0,0))
  (Option.rec (motive:=λ_=>rL) none (λt=>ah (bB 0 (pJ t).1)
   (ah (!bB (IntKind.wrap .i64 (a+1)) 0) (ah (!dI l (IntKind.wrap .i64 (a+1)) [91]) (pK (jN 4 (IntKind.wrap .i64 (a+1)))) (ah (plB l (IntKind.wrap .i64 (a+1))) (pK (oM l (IntKind.wrap .i64 (a+1)) (pJ t).1)) none)) none)
   (ah (!bB a 0) (ah (dI l a [91]) (ah (plB l a) (pK (oM l a 0)) none) (aaN l a)) none)) (dQ l a))) (dQ l a)) (aaN l a)))
theorem aaO (l:List Tok)(a:Int):aT X0 (cN P2 NP _) gG 5 115 [.dH dL l,.int .i64 a] aG.empty (rK sgR)=T2 l a:=by kernel_rfl
theorem aaP {l:List Tok}{a:Int}(hl:l.length<=200000):aaN l a=pK (CT (bq l a)):=by
 unfold aaN CT;rw[dS (show l.length<=2000000 by omega)];show ah (!bI (bq l a).2.2.1 0) _ _=_;rw[cw];by_cases h:(bq l a).2.2.1=0
 .rw[ag h,aa (show ¬(bq l a).2.2.1≠0 from λq=>q h)]
 rw[aa h,ag h]
theorem agf {l:List Tok}{a:Int}(hl:l.length<=200000):T2 l a=pK (bC l a):=by
 unfold T2 bC;rw[cF,cF,cF,aaP hl];by_cases h0:a<0
 .rw[ag h0,ag (.inl h0)]
 rw[aa h0];by_cases h1:(l.length:Int)<a
 .rw[ag h1,ag (.inr h1)]
 rw[aa h1,aa (show ¬(a<0\/(l.length:Int)<a) by omega),getI_at?];cases jx:at? l a with
 |none =>
  have:=ju (by omega) jx;rw[aa (by omega)]
 |some t =>
  have hlt:=(jj jx).2;rw[ag hlt];simp only;rw[i64_in (n:=a+1) (by omega) (by omega),fH (show (0:Int)<=a+1 by omega),fH (show (0:Int)<=a by omega)];cases hr:qf rp t with
  |some r=>rfl
  |none =>
   show ah (bB 0 (pJ t).1) _ _=_;rw[cF];simp only;by_cases hw:0<(pJ t).1
   .rw[ag hw,ag hw];cases hs:dI l (a+1) [91] with
    |false=>rfl
    |true =>
     obtain⟨c,hc,_⟩:=kg hs;have:=(jj hc).2;show ah (plB l (a+1)) _ _=_;unfold plB;rw[dS hl,fH (show (0:Int)<=a+1 by omega),qG this];rfl
   rw[aa hw,aa hw];show ah (dI l a [91]) _ _=_;cases hs:dI l a [91] with
   |false=>rfl
   |true =>
    show ah (plB l a) _ _=_;unfold plB;rw[dS hl,fH (show (0:Int)<=a by omega),qG hlt];rfl
def fOp (args:List AV):Option (Bool×List AV) :=
 match args with
 |[L,.int .i64 a]=>match GM dL L with
  |some l=>some (Nat.ble l.length 200000,aaK (bC l a))
  |none=>none
 |_=>none
theorem agh:gq X0 fR 115 ⟨none,[none,none],gV fOp⟩ :=
 Q3 rfl Cv ads sgR λvs ws hf=>by
  unfold fOp at hf;split at hf;case h_2=>cases hf
  rename_i L a;split at hf;case h_2=>cases hf
  rename_i l hl;simp only[aq,ax]at hf;obtain⟨g0,rfl⟩:=hf;have g0:=ay g0;refine⟨Q4 _,gG,5,?_⟩;rw[iy hl,aaO,agf g0];rfl
def NQ:List pI:=(115,⟨none,[none,none],gV fOp⟩)::NP
theorem adt:gR X0 fR NQ:=.cons agh ads
abbrev JA:=Int×Int×List Raw×Int×Int
def ald (c:JA):List AV:=[.agg [.int .i64 c.1,.int .i64 c.2.1,.dH jV c.2.2.1],.agg [.int .i64 c.2.2.2.1,.int .i64 c.2.2.2.2]]
def uu (c:JA):rL:=some (ald c)
def Nm (e f:Int):JA:=(0,0,[],e,f)
def sgC:List (List (Option Tv.Ty)):=[[none,none,some jV],[none,none]]
def pCm:List Bool:=[true,true,true,true,true,true,true,true,false]
def Mh:ez:=⟨gZ [0,4,5,6,8,9] pCm,.none,[]⟩
def fCm (l:List Tok)(op a:Int):fM:=lq 115 [(0,.dH dL l),(4,.ptr 0 0),(5,.ptr 1 0),(6,.int .i64 op),(8,.ptr 2 0),(9,.int .i64 a)]
def mCm (op hint:Int)(arg:AV)(rows:List Row):aG:=oY ([.cells 36 [.int .i64 0,.int .i64 0,.dG],.cells 43 [.int .i64 0,.int .i64 0],.cells 36 [.int .i64 op,.int .i64 hint,arg]]++rows)
def W9 (l:List Tok)(op hint:Int)(r m:Nat)(a:Int):rL:=iH X0 (cN P2 NQ _) Mh r 77 pCm (rK sgC) m (fCm l op a) (mCm op hint .dG [])
def Q5 (l:List Tok)(op hint:Int)(r m:Nat)(n:Nat)(a:Int)(args:List Raw):rL:=iH X0 (cN P2 NQ _) Mh r 77 pCm (rK sgC) m (fCm l op a) (mCm op hint (.own 3 n) [.list 117 jV args 0 false false])
def JB (l:List Tok)(op hint:Int)(J:Nat->Int->List Raw->rL)(a:Int)(args:List Raw):rL :=
 (λX:Raw->rL=>ah (Nat.ble l.length 200000) (ah (!bI (bC l a).2.2.1 0) (uu (Nm (bC l a).2.2.1 (bC l a).2.2.2))
  (ah (bI (bC l a).1.1 3) (ah (tv op) (X (4,(bC l a).1.2)) (X (bC l a).1)) (X (bC l a).1))) none)
 (λraw=>ah (Nat.ble (args.length+1) 2000000) (ah (bI (bC l a).2.1 l.length) (uu (op,hint,args++[raw],0,0))
  (ah (!bB (bC l a).2.1 0) (ah (!dI l (bC l a).2.1 [44]) (uu (Nm 4 (bC l a).2.1)) (ah (bI ((args.length+1:Nat):Int) 4) (uu (Nm 3 (bC l a).2.1))
   (J (args.length+1) (IntKind.wrap .i64 ((bC l a).2.1+1)) (args++[raw])))) none)) none)
theorem aaQ (l:List Tok)(op hint:Int)(r m:Nat)(a:Int):W9 l op hint r (m+1) a=JB l op hint (λn a args=>Q5 l op hint r m n a args) a []:=by kernel_rfl
theorem JC (l:List Tok)(op hint:Int)(r m n:Nat)(a:Int)(args:List Raw):Q5 l op hint r (m+1) n a args=JB l op hint (λn a args=>Q5 l op hint r m n a args) a args:=by kernel_rfl
def cmT (l:List Tok)(a:Int)(J:Int->Int->Int->rL):rL :=
 ah (bB a 0) (uu (Nm 2 0)) (ah (bB l.length a) (uu (Nm 2 0)) (ah (!bB a 0) (ah (!(J9 l a).2) (uu (Nm 6 a))
  ((
   λgo:Int->Int->rL=>ah (bB (IntKind.wrap .i64 (a+1)) l.length) (Option.rec (motive:=λ_=>rL) none (λt=>ah (!bI (pJ t).2 0) (go (pJ t).2 (IntKind.wrap .i64 (IntKind.wrap .i64 (a+1)+1))) (go 0 (IntKind.wrap .i64 (a+1)))) (dQ l (IntKind.wrap .i64 (a+1)))) (go 0 (IntKind.wrap .i64 (a+1))))
   (λhint b=>ah (bI b l.length) (uu ((J9 l a).1,hint,[],0,0)) (J (J9 l a).1 hint b)))) none))
theorem JD (l:List Tok)(a:Int)(r:Nat):aT X0 (cN P2 NQ _) Mh r 77 [.dH dL l,.int .i64 a] aG.empty (rK sgC)=cmT l a (λop hint b=>W9 l op hint r r b):=by kernel_rfl
def CU (op:Int)(w:Raw):Raw:=if w.1=3/\tv op=true then (4,w.2) else w
def Mi (l:List Tok)(op hint:Int):Nat->Int->List Raw->Option JA
 |0,_,_=>none
 |n+1,a,args =>
  if (bC l a).2.2.1≠0 then some (Nm (bC l a).2.2.1 (bC l a).2.2.2)
  else if (bC l a).2.1=l.length then some (op,hint,args++[CU op (bC l a).1],0,0)
  else if dI l (bC l a).2.1 [44]=false then some (Nm 4 (bC l a).2.1)
  else if args.length+1=4 then some (Nm 3 (bC l a).2.1)
  else Mi l op hint n ((bC l a).2.1+1) (args++[CU op (bC l a).1])
def Tf (l:List Tok)(op h a:Int):JA :=
 if (if h=0 then a+1 else a+2)=(l.length:Int) then (op,h,[],0,0) else (Mi l op h 5 (if h=0 then a+1 else a+2) []).getD (Nm 0 0)
def sL (l:List Tok)(a:Int):Int:=match at? l (a+1) with
 |some t=>(pJ t).2
 |none=>0
def eA (l:List Tok)(a:Int):JA :=
 if a<0\/(l.length:Int)<a then Nm 2 0
 else if (J9 l a).2=false then Nm 6 a
 else Tf l (J9 l a).1 (sL l a) a
theorem tA {l:List Tok}{i:Int}(h0:0<=i)(h1:i<l.length):∃t,at? l i=some t:=by
 cases jx:at? l i with
 |some t=>exact⟨t,rfl⟩
 |none=>have:=ju h0 jx;omega
theorem Xa {l:List Tok}{sg:List UInt8}{a b:Int}{s:TS}(h0:0<=a)(hb:b<=l.length)(h:(mQ rp l sg a b s).1=false):(mQ rp l sg a b s).2.1≠0:=by
 have key:∀o:qK,(∃s e f,e≠0/\o=lF s e f)\/(∃s,o=okO s)->o.1=false->o.2.1≠0:=λo ho h=>by
  rcases ho with⟨s,e,f,he,rfl⟩|⟨s,rfl⟩
  .exact he
  cases h
 have hal:∀r,(∃s' e f,e≠0/\mH sg r a s=lF s' e f)\/(∃s',mH sg r a s=okO s'):=λr=>by
  unfold mH;split
  .exact .inl ⟨_,_,_,by decide,rfl⟩
  split
  .exact .inr ⟨_,rfl⟩
  split
  .exact .inr ⟨_,rfl⟩
  exact .inl ⟨_,_,_,by decide,rfl⟩
 have hsc:∀r num n,(∃s' e f,e≠0/\iZ sg r a num n s=lF s' e f)\/(∃s',iZ sg r a num n s=okO s'):=λr num n=>by
  unfold iZ;split
  .exact .inl ⟨_,_,_,by decide,rfl⟩
  split
  .exact .inr ⟨_,rfl⟩
  exact .inl ⟨_,_,_,by decide,rfl⟩
 refine key _ ?_ h;unfold mQ;split
 .exact .inl ⟨_,_,_,by decide,rfl⟩
 split
 .obtain ⟨t,ht⟩:=tA (l:=l) (i:=a) h0 (by omega);rw[ht];simp only;split
  .exact hal _
  split
  .exact hal _
  exact .inr ⟨_,rfl⟩
 split
 .obtain ⟨t,ht⟩:=tA (l:=l) (i:=a) h0 (by omega);obtain⟨u,hu⟩:=tA (l:=l) (i:=a+2) (by omega) (by omega);rw[ht,hu];simp only;split
  .split
   .exact hsc _ _ _
   split
   .exact hsc _ _ _
   exact .inr ⟨_,rfl⟩
  .split
   .exact hsc _ _ _
   exact .inr ⟨_,rfl⟩
  .split
   .exact hsc _ _ _
   exact .inr ⟨_,rfl⟩
  exact .inr ⟨_,rfl⟩
 exact .inr ⟨_,rfl⟩
theorem Fb {l:List Tok}{en:Int}(hel:en<l.length):∀(m:Nat) (sg:List UInt8) (a:Int) (s:TS) (o:qK),0<=a->a<=en->Pp.oL rp l en m sg a s=some o->o.1=false->o.2.1≠0
 |0,_,_,_,_,_,_,h,_=>by cases h
 |m+1,sg,a,s,o,h0,h1,h,ho=>by
  obtain⟨b1,b2⟩:=Aw (l:=l) (a:=a) (e:=en) h0 h1 (by omega);have hb:=Xa (l:=l) (sg:=sg) (a:=a) (b:=fN l a en) (s:=s) h0 (by omega);unfold Pp.oL at h;split at h
  .split at h
   .cases h;cases ho
   split at h
   .exact Fb hel m _ _ _ o (by omega) (by omega) h ho
   cases h
  rename_i x f s' hs;cases h;rw[hs]at hb;exact hb rfl
theorem Xb {l:List Tok}{op en:Int}{s:TS}(hl:l.length<=200000)(hs:s.put=[])(h0:0<=op)(h1:op+1<=en)(h2:en<l.length)(hc:dI l en [93]=true)(h:(nr l op en s).1=false):(nr l op en s).2.1≠0:=by
 obtain⟨ce,hce,Y6⟩:=kg hc;have key:∀r:Option qK,(∃o,r=some o)->(∀o,r=some o->o.1=false->o.2.1≠0)->(r.getD (lF s 0 0)).1=false->(r.getD (lF s 0 0)).2.1≠0:=λr ⟨o,ho⟩ h1 h2=>by
  subst ho;exact h1 o rfl h2
 have hput:∀a:Int,0<=a->(s.put.length:Int)<=4*a:=λa h=>by rw[hs];show (0:Int)<=_;omega
 unfold nr at h ⊢;refine key _ ?_ (λo ho=>?_) h
 .split
  .rename_i hsg;have:op+2<=en:=by
    by_cases he:en=op+1
    .exfalso;rw[he]at hce;rcases hsg with h|h<;>(obtain⟨c2,k1,k2⟩:=kg h;rw[hce]at k1;cases k1;rw[E8 Y6 (by decide)]at k2;cases k2)
    omega
   obtain⟨o,h3,_⟩:=Jw (l:=l) (op:=op) (en:=en) (sz:=0) (r:=0) hl h2 (l.length+1) ((at? l (op+1)).getD WR).2.2.1 (op+2) s (by omega) this (hput _ (by omega)) (by omega);exact⟨o,h3⟩
  obtain⟨o,h3,_⟩:=Jw (l:=l) (op:=op) (en:=en) (sz:=0) (r:=0) hl h2 (l.length+1) [43] (op+1) s (by omega) h1 (hput _ (by omega)) (by omega);exact⟨o,h3⟩
 split at ho
 .rename_i hsg;have:op+2<=en:=by
   by_cases he:en=op+1
   .exfalso;rw[he]at hce;rcases hsg with h|h<;>(obtain⟨c2,k1,k2⟩:=kg h;rw[hce]at k1;cases k1;rw[E8 Y6 (by decide)]at k2;cases k2)
   omega
  exact Fb h2 _ _ _ _ o (by omega) this ho
 exact Fb h2 _ _ _ _ o (by omega) h1 ho
theorem Hw {l:List Tok}{op sz:Int}(hl:l.length<=200000)(h0:0<=op)(h1:op<l.length)(h:(oM l op sz).2.2.1=0):op<(oM l op sz).2.1/\(oM l op sz).2.1<=l.length:=by
 have hnone:∀e f,(jN e f).2.2.1=0->e=0:=λe f h=>h
 unfold oM at h ⊢;split at h
 .rename_i hr;rw[ag hr];split at h
  .rename_i he;exact absurd h he
  rename_i he;have he:(bq l (op+2)).2.2.1=0:=eN.1 he;obtain⟨q1,q2⟩:=ur he;rw[aa (λq=>q he)];split at h
  .rename_i hs;rw[ag hs];obtain⟨c,hc,_⟩:=kg hs;have:=(jj hc).2;show op<(bq l (op+2)).2.1+1/\(bq l (op+2)).2.1+1<=_;omega
  cases h
 rename_i hr;rw[aa hr];split at h
 .cases h
 rename_i en hc;obtain⟨c1,c2,c3⟩:=BU (by omega) (by omega) hc;have key:∀o,(∀b,o.1=b->b=true->o.2.1=0/\o.2.2.1=0)->(E9 l op en sz o).2.2.1=0->(E9 l op en sz o).2.1=en+1\/(o.1=false/\o.2.1=0):=λo _ h=>by
  unfold E9 at h ⊢;split at h
  .rename_i ho;exact .inr ⟨ho,h⟩
  rename_i ho;rw[aa ho];left
  split at h
  .rename_i hp;rw[ag hp];split at h
   .rename_i hm;rw[ag hm];rfl
   cases h
  rename_i hp;rw[aa hp];split at h
  .rename_i he;exact absurd h he
  rename_i he;rw[aa he];split at h
  .cases h
  rename_i hq;rw[aa hq];split at h
  .rename_i hm;rw[ag hm];rfl
  cases h
 rcases key (nr l op en Te) (λb hb ht=>Q2 (hb.trans ht)) h with hk|⟨k1,k2⟩
 .show op<(E9 l op en sz (nr l op en Te)).2.1/\(E9 l op en sz (nr l op en Te)).2.1<=_;rw[hk];omega
 exact absurd k2 (Xb hl rfl h0 c1 c2 c3 k1)
theorem Cw {l:List Tok}{a:Int}(hl:l.length<=200000)(h:(bC l a).2.2.1=0):0<=a/\a<(bC l a).2.1/\(bC l a).2.1<=l.length:=by
 have Mj:(CT (bq l a)).2.2.1=0->a<(CT (bq l a)).2.1/\(CT (bq l a)).2.1<=l.length:=λh=>by
  unfold CT at h ⊢;split at h
  .rename_i he;exact absurd h he
  rename_i he;rw[aa he];exact ur (eN.1 he)
 unfold bC at h ⊢;split at h
 .cases h
 rename_i h0;rw[aa h0];refine⟨by omega,?_⟩;cases jx:at? l a with
 |none=>rw[jx]at h;exact Mj h
 |some t =>
  rw[jx]at h;have hlt:=(jj jx).2;simp only at h ⊢;cases hr:qf rp t with
  |some r=>show a<a+1/\a+1<=_;omega
  |none =>
   rw[hr]at h;simp only at h ⊢;split at h
   .rename_i hw;rw[ag hw];split at h
    .rename_i hs;rw[ag hs];obtain⟨c,hc,_⟩:=kg hs;have:=(jj hc).2;have:=Hw hl (by omega) this h;omega
    cases h
   rename_i hw;rw[aa hw];split at h
   .rename_i hs;rw[ag hs];exact Hw hl (by omega) hlt h
   rename_i hs;rw[aa hs];exact Mj h
theorem Hx {l:List Tok}{op hint:Int}(hl:l.length<=200000){m:Nat}{J:Nat->Int->List Raw->rL}{a:Int}{args:List Raw}(hn:args.length<=3)
 (ih:∀b,args.length+1<=3->∃c,Mi l op hint m b (args++[CU op (bC l a).1])=some c/\J (args.length+1) b (args++[CU op (bC l a).1])=uu c):∃c,Mi l op hint (m+1) a args=some c/\JB l op hint J a args=uu c:=by
 unfold JB;simp only;rw[dS hl,dS (show args.length+1<=2000000 by omega)];have P6:∀X:Raw->rL,(ah (bI (bC l a).1.1 3) (ah (tv op) (X (4,(bC l a).1.2)) (X (bC l a).1)) (X (bC l a).1))=X (CU op (bC l a).1):=λX=>by
  rw[cq];unfold CU;by_cases h3:(bC l a).1.1=3
  .rw[ag h3];cases tv op with
   |true=>rw[ag ⟨h3,rfl⟩]
   |false=>rw[aa (show ¬((bC l a).1.1=3/\false=true) from λh=>by cases h.2)]
  rw[aa h3,aa (show ¬((bC l a).1.1=3/\tv op=true) from λh=>h3 h.1)]
 have hX:=P6 (λraw=>ah true (ah (bI (bC l a).2.1 l.length) (uu (op,hint,args++[raw],0,0))
  (ah (!bB (bC l a).2.1 0) (ah (!dI l (bC l a).2.1 [44]) (uu (Nm 4 (bC l a).2.1)) (ah (bI ((args.length+1:Nat):Int) 4) (uu (Nm 3 (bC l a).2.1))
   (J (args.length+1) (IntKind.wrap .i64 ((bC l a).2.1+1)) (args++[raw])))) none)) none)
 refine(cj (λz=>∃c,Mi l op hint (m+1) a args=some c/\ah true (ah (!bI (bC l a).2.2.1 0) (uu (Nm (bC l a).2.2.1 (bC l a).2.2.2)) z) none=uu c) hX).mpr ?_;unfold Mi;show ∃c,_/\ah (!bI (bC l a).2.2.1 0) _ _=_;rw[cw];by_cases he:(bC l a).2.2.1=0
 .obtain ⟨q0,q1,q2⟩:=Cw hl he;rw[ag he,aa (show ¬(bC l a).2.2.1≠0 from λh=>h he)];show ∃c,_/\ah (bI (bC l a).2.1 l.length) _ _=_;rw[cq];by_cases h1:(bC l a).2.1=l.length
  .rw[ag h1,ag h1];exact⟨_,rfl,rfl⟩
  rw[aa h1,aa h1,fH (by omega),i64_in (n:=(bC l a).2.1+1) (by omega) (by omega)];show ∃c,_/\ah (!dI l (bC l a).2.1 [44]) _ _=_;cases dI l (bC l a).2.1 [44] with
  |false=>exact⟨_,rfl,rfl⟩
  |true =>
   rw[aa (show ¬true=false by decide)];show ∃c,_/\ah (bI ((args.length+1:Nat):Int) 4) _ _=_;rw[cq];by_cases h4:args.length+1=4
   .rw[ag h4,ag (by omega)];exact⟨_,rfl,rfl⟩
   rw[aa h4,aa (by omega)];exact ih _ (by omega)
 rw[aa he,ag he];exact⟨_,rfl,rfl⟩
theorem JG {l:List Tok}{op hint:Int}(hl:l.length<=200000){r:Nat}:∀(m:Nat) (a:Int) (args:List Raw),args.length<=3->4<=args.length+m->∃c,Mi l op hint m a args=some c/\Q5 l op hint r m args.length a args=uu c
 |0,a,args,h1,h2=>by omega
 |m+1,a,args,h1,h2=>by
  rw[JC];refine Hx hl h1 λb hb=>?_
  have:=JG (op:=op) (hint:=hint) hl (r:=r) m b (args++[CU op (bC l a).1]) (by simp;omega) (by simp;omega);rw[show (args++[CU op (bC l a).1]).length=args.length+1 by simp]at this;exact this
theorem aaR {l:List Tok}{op hint:Int}(hl:l.length<=200000){r:Nat}(a:Int):W9 l op hint r 5 a=uu ((Mi l op hint 5 a []).getD (Nm 0 0)):=by
 rw[aaQ];obtain⟨c,h1,h2⟩:=Hx (l:=l) (op:=op) (hint:=hint) hl (m:=4) (J:=λn a args=>Q5 l op hint r 4 n a args) (a:=a) (args:=[]) (by simp) λb hb=>JG (op:=op) (hint:=hint) hl (r:=r) 4 b ([]++[CU op (bC l a).1]) (by simp) (by simp)
 rw[h1];exact h2
theorem agi {l:List Tok}{a:Int}(hl:l.length<=200000):cmT l a (λop hint b=>W9 l op hint 5 5 b)=uu (eA l a):=by
 unfold cmT eA;rw[cF,cF];by_cases h0:a<0
 .rw[ag h0,ag (.inl h0)]
 rw[aa h0,fH (by omega)];by_cases h1:(l.length:Int)<a
 .rw[ag h1,ag (.inr h1)]
 rw[aa h1,aa (show ¬(a<0\/(l.length:Int)<a) by omega)];show ah (!(J9 l a).2) _ _=_;cases (J9 l a).2 with
 |false=>rfl
 |true =>
  rw[aa (show ¬true=false by decide)];show ah (bB (IntKind.wrap .i64 (a+1)) l.length) _ _=_;rw[i64_in (n:=a+1) (by omega) (by omega),i64_in (n:=a+1+1) (by omega) (by omega),cF,getI_at?];have go:∀hint b:Int,(if hint=0 then a+1 else a+2)=b->(ah (bI b l.length) (uu ((J9 l a).1,hint,[],0,0)) (W9 l (J9 l a).1 hint 5 5 b))=uu (Tf l (J9 l a).1 hint a):=λhint b hb=>by
   unfold Tf;rw[hb,cq,aaR hl];split<;>rfl
  have h0:=go 0 (a+1) rfl;cases jx:at? l (a+1) with
  |none =>
   have:=ju (by omega) jx;have hh:sL l a=0:=by unfold sL;rw[jx]
   rw[aa (by omega),hh];exact h0
  |some t =>
   have hh:sL l a=(pJ t).2:=by unfold sL;rw[jx]
   rw[ag (jj jx).2,hh];show ah (!bI (pJ t).2 0) _ _=_;rw[cw];by_cases hw:(pJ t).2=0
   .rw[ag hw,hw];exact h0
   rw[aa hw];exact go _ _ (by rw[aa hw];omega)
def gCm (args:List AV):Option (Bool×List AV) :=
 match args with
 |[L,.int .i64 a]=>match GM dL L with
  |some l=>some (Nat.ble l.length 200000,ald (eA l a))
  |none=>none
 |_=>none
theorem Pe:gq X0 fR 77 ⟨none,[none,none],gV gCm⟩ :=
 Q3 rfl Cv adt sgC λvs ws hf=>by
  unfold gCm at hf;split at hf;case h_2=>cases hf
  rename_i L a;split at hf;case h_2=>cases hf
  rename_i l hl;simp only[aq,ax]at hf;obtain⟨g0,rfl⟩:=hf;have g0:=ay g0;refine⟨rfl,Mh,5,?_⟩;rw[iy hl,JD,agi g0];rfl
def NC:List pI:=(77,⟨none,[none,none],gV gCm⟩)::NQ
theorem Xc:gR X0 fR NC:=.cons Pe adt
end
end Go.Proofs.YtbeckacfibledaaGreatDoor.ps
