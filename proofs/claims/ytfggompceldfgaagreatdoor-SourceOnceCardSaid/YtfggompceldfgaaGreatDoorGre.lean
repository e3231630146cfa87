/- Places: all terms. Places: the contract of place. Operands and instructions: the contracts of Operand and Command. -/
import Derived.Test.YtfggompceldfgaaGreatDoorGrd
set_option linter.unusedVariables false
set_option linter.unusedSimpArgs false

namespace Go.Proofs.YtfggompceldfgaaGreatDoor.ps
open Go.Tv Go.Ev Go.Px Go.Pp Go.Proofs.YtfggompceldfgaaGreatDoor.ex
set_option maxRecDepth 100000
noncomputable section
def NO:List rL:=(182,cTm fOn [none,none,none])::NS
theorem acG:js X0 gW NO:=.cons afj acF
def anZ (l:List Tok)(op en sz:Int)(n:Nat)(s:TS)(e f:Int):aH:=ZX [.cells 217 [.dW dJ l,.int .i64 op,.int .i64 en,.int .i64 s.bc,.int .i64 s.bn,.int .i64 s.ic,.int .i64 s.ix,.int .i64 s.sc,.int .i64 0,.int .i64 sz,.own 1 n,.own 2 0,.int .i64 e,.int .i64 f],.list 96 dJ s.put 0 false false,.list 89 fL [] 0 false false]
def pAl:List Bool:=[true,true,true,false]
def afk:eD:=⟨gZ [0,3,4] pAl,.none,[]⟩
def jAl (l:List Tok)(op en sz:Int)(r m:Nat)(sg:List UInt8)(a:Int)(s:TS)(e f:Int)(n:Nat):dV:=jf X0 (cN P2 NO _) afk r 172 pAl (SD [none]) m (lz 60 [(0,.ptr 0 0),(3,.int .i64 a),(4,.str sg)]) (anZ l op en sz n s e f)
def stB (l:List Tok)(en a:Int):Bool:=Nat.ble l.length 2000000 && !bB a 1 && !bB en a && !bB l.length en
def onB (l:List Tok)(en a b:Int)(s:TS):Bool:=Nat.ble l.length 200000 && !bB a 0 && !bB b a && !bB en b&&bB en l.length && !bB (4*a) s.put.length
def OH (l:List Tok)(op en sz:Int)(J:List UInt8->Int->TS->Int->Int->Nat->dV)(sg:List UInt8)(a:Int)(s:TS)(e f:Int):dV :=
 ah (stB l en a&&(bI e 0&&bI f 0)&&true) (ah (onB l en a (fP l a en) s&&true&&true)
  (ah (!(mP rp l sg a (fP l a en) s).1) (lf (.bool false) l op en sz (mP rp l sg a (fP l a en) s).2.2.2 (mP rp l sg a (fP l a en) s).2.1 (mP rp l sg a (fP l a en) s).2.2.1 (mP rp l sg a (fP l a en) s).2.2.2.put.length)
   (ah (bI (fP l a en) en) (lf (.bool true) l op en sz (mP rp l sg a (fP l a en) s).2.2.2 (mP rp l sg a (fP l a en) s).2.1 (mP rp l sg a (fP l a en) s).2.2.1 (mP rp l sg a (fP l a en) s).2.2.2.put.length)
    (Option.rec (motive:=λ_=>dV) none (λy=>J y.2.2.1 (IntKind.wrap .i64 (fP l a en+1)) (mP rp l sg a (fP l a en) s).2.2.2 (mP rp l sg a (fP l a en) s).2.1 (mP rp l sg a (fP l a en) s).2.2.1 (mP rp l sg a (fP l a en) s).2.2.2.put.length) (dX l (fP l a en))))) none) none
theorem afm (l:List Tok)(op en sz:Int)(r m:Nat)(sg:List UInt8)(a:Int)(bc bn ic ix sc:Int)(put:List Tok)(e f:Int)(n:Nat):jAl l op en sz r (m+1) sg a ⟨bc,bn,ic,ix,sc,put⟩ e f n=OH l op en sz (jAl l op en sz r m) sg a ⟨bc,bn,ic,ix,sc,put⟩ e f:=by kernel_rfl
def Wz (l:List Tok)(op:Int)(J:List UInt8->Int->dV):dV :=
 (λyes:dV=>ah (!bB (IntKind.wrap .i64 (op+1)) 0) (ah (dF l (IntKind.wrap .i64 (op+1)) [43]) yes (ah (!bB (IntKind.wrap .i64 (op+1)) 0) (ah (dF l (IntKind.wrap .i64 (op+1)) [45]) yes (J [43] (IntKind.wrap .i64 (op+1)))) none)) none)
  (Option.rec (motive:=λ_=>dV) none (λy=>J y.2.2.1 (IntKind.wrap .i64 (IntKind.wrap .i64 (op+1)+1))) (dX l (IntKind.wrap .i64 (op+1))))
theorem aae (l:List Tok)(op en sz:Int)(r:Nat)(bc bn ic ix sc:Int)(put:List Tok):aT X0 (cN P2 NO _) afk r 172 [.ptr 0 0] (jg 217 14 (BL l op en sz ⟨bc,bn,ic,ix,sc,put⟩ 0 0++[])) (SD [none])=Wz l op (λsg a=>jAl l op en sz r r sg a ⟨bc,bn,ic,ix,sc,put⟩ 0 0 put.length):=by kernel_rfl
theorem Al (e:Int):∀(r:List Tok) (p:Tok) (a d:Int),a+r.length=e->a<=tn e p r a d/\tn e p r a d<=e
 |[],p,a,d,h=>by
  have h:a+0=e:=h;unfold tn;omega
 |t::r,p,a,d,h=>by
  have hl:(a+1)+r.length=e:=by simp at h;omega
  unfold tn;have i1:=Al e r t (a+1) (d+1) hl;have i2:=Al e r t (a+1) (if 0<d-1 then d-1 else 0) hl;have i3:=Al e r t (a+1) d hl;split
  .omega
  split
  .omega
  split<;>omega
theorem Am {l:List Tok}{a e:Int}(h0:0<=a)(h1:a<=e)(h2:e<=l.length):a<=fP l a e/\fP l a e<=e:=by
 unfold fP;exact Al e _ _ _ _ (by rw[bR,bZ];omega)
theorem aaf {l:List Tok}{sg:List UInt8}{a b:Int}{s:TS}(h:(mP rp l sg a b s).1=true):(mP rp l sg a b s).2.1=0/\(mP rp l sg a b s).2.2.1=0:=by
 have key:∀o:qL,(∃s e f,o=lC s e f)\/(∃s,o=okO s)->o.1=true->o.2.1=0/\o.2.2.1=0:=λo ho h=>by
  rcases ho with⟨s,e,f,rfl⟩|⟨s,rfl⟩
  .cases h
  exact⟨rfl,rfl⟩
 have hal:∀r,(∃s' e f,mG sg r a s=lC s' e f)\/(∃s',mG sg r a s=okO s'):=λr=>by
  unfold mG;split
  .exact .inl ⟨_,_,_,rfl⟩
  split
  .exact .inr ⟨_,rfl⟩
  split
  .exact .inr ⟨_,rfl⟩
  exact .inl ⟨_,_,_,rfl⟩
 have hsc:∀r num n,(∃s' e f,iW sg r a num n s=lC s' e f)\/(∃s',iW sg r a num n s=okO s'):=λr num n=>by
  unfold iW;split
  .exact .inl ⟨_,_,_,rfl⟩
  split
  .exact .inr ⟨_,rfl⟩
  exact .inl ⟨_,_,_,rfl⟩
 refine key _ ?_ h;unfold mP;split
 .exact .inl ⟨_,_,_,rfl⟩
 split
 .split
  .split
   .exact hal _
   split
   .exact hal _
   exact .inr ⟨_,rfl⟩
  exact .inl ⟨_,_,_,rfl⟩
 split
 .split
  .split
   .split
    .exact hsc _ _ _
    split
    .exact hsc _ _ _
    exact .inr ⟨_,rfl⟩
   .split
    .exact hsc _ _ _
    exact .inr ⟨_,rfl⟩
   .split
    .exact hsc _ _ _
    exact .inr ⟨_,rfl⟩
   exact .inr ⟨_,rfl⟩
  exact .inl ⟨_,_,_,rfl⟩
 exact .inr ⟨_,rfl⟩
theorem LW {l:List Tok}{sg:List UInt8}{a b:Int}{s:TS}(h0:0<=a)(hab:a<=b):((mP rp l sg a b s).2.2.2.put.length:Int)<=s.put.length+3+(b-a):=by
 have hal:∀r,((mG sg r a s).2.2.2.put.length:Int)<=s.put.length+3+(b-a):=λr=>by
  have:(mG sg r a s).2.2.2.put=s.put:=by
   unfold mG;split
   .rfl
   split
   .rfl
   split<;>rfl
  rw[this];omega
 have hsc:∀r num n,((iW sg r a num n s).2.2.2.put.length:Int)<=s.put.length+3+(b-a):=λr num n=>by
  have:(iW sg r a num n s).2.2.2.put=s.put:=by
   unfold iW;split
   .rfl
   split<;>rfl
  rw[this];omega
 have hot:((qV l sg a b s).2.2.2.put.length:Int)<=s.put.length+3+(b-a):=by
  have hc:(Oq l a b).length<=(b-a).toNat:=by unfold Oq;rw[bZ];omega
  unfold qV okO;simp only[aA,aJ,bD];split
  .simp only[aA,aJ,bD];omega
  omega
 have hf:∀e f,((lC s e f).2.2.2.put.length:Int)<=s.put.length+3+(b-a):=λe f=>by show (s.put.length:Int)<=_;omega
 unfold mP;split
 .exact hf _ _
 split
 .split
  .split
   .exact hal _
   split
   .exact hal _
   exact hot
  exact hf _ _
 split
 .split
  .split
   .split
    .exact hsc _ _ _
    split
    .exact hsc _ _ _
    exact hot
   .split
    .exact hsc _ _ _
    exact hot
   .split
    .exact hsc _ _ _
    exact hot
   exact hot
  exact hf _ _
 exact hot
theorem Je {l:List Tok}{op en sz:Int}{r:Nat}(hl:l.length<=200000)(hel:en<l.length):∀(m:Nat) (sg:List UInt8) (a:Int) (s:TS),1<=a->a<=en->(s.put.length:Int)<=4*a->en-a<m ->
 ∃o,oJ rp l en m sg a s=some o/\jAl l op en sz r m sg a s 0 0 s.put.length=lfO l op en sz o
 |0,sg,a,s,h1,h2,h3,h4=>by omega
 |m+1,sg,a,s,h1,h2,h3,h4=>by
  obtain⟨b1,b2⟩:=Am (l:=l) (a:=a) (e:=en) (by omega) h2 (by omega);have hst:stB l en a=true:=by
   unfold stB;rw[ee (by omega),fG h1,fG h2,fG (show en<=(l.length:Int) by omega)];rfl
  have hon:onB l en a (fP l a en) s=true:=by
   unfold onB;rw[ee hl,fG (show 0<=a by omega),fG b1,fG b2,pL hel,fG h3];rfl
  have hstep:=afm l op en sz r m sg a s.bc s.bn s.ic s.ix s.sc s.put 0 0 s.put.length;have hstep:jAl l op en sz r (m+1) sg a s 0 0 s.put.length=OH l op en sz (jAl l op en sz r m) sg a s 0 0:=hstep;rw[hstep];unfold OH;rw[hst,hon];have hgo:oJ rp l en (m+1) sg a s=match mP rp l sg a (fP l a en) s with
   |(true,_,_,s')=>if fP l a en=en then some (okO s') else match at? l (fP l a en) with
    |some t=>oJ rp l en m t.2.2.1 (fP l a en+1) s'
    |none=>none
   |(false,x,f,s')=>some (lC s' x f):=rfl
  rw[hgo];have hok:=aaf (l:=l) (sg:=sg) (a:=a) (b:=fP l a en) (s:=s);have hput:=LW (l:=l) (sg:=sg) (a:=a) (b:=fP l a en) (s:=s) (by omega) b1;generalize hO:mP rp l sg a (fP l a en) s=o at hok hput;obtain⟨ob,oe,of,os⟩:=o;cases ob with
  |false=>exact⟨_,rfl,rfl⟩
  |true =>
   obtain⟨rfl,rfl⟩:=hok rfl;simp only at hput ⊢;show ∃o,_/\ah (bI (fP l a en) en) _ _=_;rw[ck];by_cases hb:fP l a en=en
   .rw[ag hb,ag hb];exact⟨_,rfl,rfl⟩
   rw[aa hb,aa hb,getI_at?];obtain⟨t,ht⟩:∃t,at? l (fP l a en)=some t:=by
    cases jw:at? l (fP l a en) with
    |some t=>exact⟨t,rfl⟩
    |none=>have:=jt (by omega) jw;omega
   rw[ht];simp only;rw[i64_in (n:=fP l a en+1) (by omega) (by omega)];exact Je hl hel m t.2.2.1 (fP l a en+1) os (by omega) (by omega) (by omega) (by omega)
def nr (l:List Tok)(op en:Int)(s:TS):qL :=
 (if dF l (op+1) [43]=true\/dF l (op+1) [45]=true then oJ rp l en (l.length+1) ((at? l (op+1)).getD Wm).2.2.1 (op+2) s
  else oJ rp l en (l.length+1) [43] (op+1) s).getD (lC s 0 0)
def fAl:FTm:=λl op en s args=>match args with
 |[]=>some (Nat.ble l.length 200000 && !bB op 0 && !bB en (op+1)&&bB en l.length&&s.put.isEmpty&&dF l en [93],((nr l op en s).2.1,(nr l op en s).2.2.1,(nr l op en s).2.2.2),[.val (.bool (nr l op en s).1)])
 |_=>none
theorem kg {l:List Tok}{a:Int}{t:List UInt8}(h:dF l a t=true):∃c,at? l a=some c/\pJ c t=true:=by
 unfold dF at h;split at h
 .rename_i c hc;exact⟨c,hc,h⟩
 cases h
theorem ET {c:Tok}{s t:List UInt8}(h:pJ c s=true)(hne:s≠t):pJ c t=false:=by
 unfold pJ at h ⊢;simp only[ak,aV]at h;rw[bf h.1,h.2,aU hne];rfl
theorem afn:iB X0 gW 172 (cTm fAl []) :=
 OB rfl Cp acG (tO:=[none]) λl op en sz s args q rs hF hal=>by
  unfold fAl at hF;split at hF;case h_2=>cases hF
  simp only[aq,ax,ak,aS]at hF;obtain⟨⟨⟨⟨⟨⟨g0,g1⟩,g2⟩,g3⟩,g4⟩,g5⟩,rfl,rfl⟩:=hF;have g0:=az g0;have g1:=I9 g1;have g2:=I9 g2;have g3:en<l.length:=by rw[cB]at g3;simpa using g3
  have g4:s.put=[]:=gQ.1 g4;refine⟨[],[.bool (nr l op en s).1],afk,l.length+1,rfl,rfl,?_⟩;have h1:=aae l op en sz (l.length+1) s.bc s.bn s.ic s.ix s.sc s.put;refine h1.trans ?_;unfold Wz;simp only;rw[i64_in (n:=op+1) (by omega) (by omega),fG (show (0:Int)<=op+1 by omega),i64_in (n:=op+1+1) (by omega) (by omega),getI_at?];obtain⟨c,hc⟩:∃c,at? l (op+1)=some c:=by
   cases jw:at? l (op+1) with
   |some t=>exact⟨t,rfl⟩
   |none=>have:=jt (by omega) jw;omega
  have go:∀(sg:List UInt8) (a:Int),op+1<=a->a<=en->nr l op en s=((oJ rp l en (l.length+1) sg a s).getD (lC s 0 0))->jAl l op en sz (l.length+1) (l.length+1) sg a s 0 0 s.put.length=some (BL l op en sz (nr l op en s).2.2.2 (nr l op en s).2.1 (nr l op en s).2.2.1++[AV.bool (nr l op en s).1].map fK.val,[(nr l op en s).2.2.2.put.length,0]):=λsg a h1 h2 h3=>by
   obtain⟨o,e1,e2⟩:=Je (l:=l) (op:=op) (en:=en) (sz:=sz) (r:=l.length+1) g0 g3 (l.length+1) sg a s (by omega) h2 (by rw[g4];show (0:Int)<=_;omega) (by omega);rw[e2,h3,e1];rfl
  obtain⟨ce,hce,YF⟩:=kg g5;have hne:(dF l (op+1) [43]=true\/dF l (op+1) [45]=true)->op+2<=en:=λh=>by
   by_cases he:en=op+1
   .exfalso;rw[he]at hce;rcases h with h|h<;>(obtain⟨c2,k1,k2⟩:=kg h;rw[hce]at k1;cases k1;rw[ET YF (by decide)]at k2;cases k2)
   omega
  rw[hc];by_cases hs:dF l (op+1) [43]=true\/dF l (op+1) [45]=true
  .have hy:=go c.2.2.1 (op+1+1) (by omega) (by have:=hne hs;omega) (by unfold nr;rw[ag hs,hc,show op+1+1=op+2 by omega];rfl);cases h43:dF l (op+1) [43] with
   |true=>exact hy
   |false =>
    cases h45:dF l (op+1) [45] with
    |true=>exact hy
    |false=>rw[h43,h45]at hs;simp at hs
  have hn:=go [43] (op+1) (by omega) (by omega) (by unfold nr;rw[aa hs]);simp only[kK,ez]at hs;rw[hs.1,hs.2];exact hn
def NA:List rL:=(172,cTm fAl [])::NO
theorem acH:js X0 gW NA:=.cons afn acG
abbrev WA:=Raw×Int×Int×Int
abbrev nu:Tv.Ty:=.pair (.int .i64) (.pair (.pair (.int .i64) (.int .i64)) (.pair (.pair (.pair (.int .i64) (.int .i64)) (.pair (.pair (.int .i64) (.int .i64)) (.pair (.int .i64) (.pair (.int .i64) (.int .i64))))) (.pair (.sl fL) .bool)))
def an4:Raw:=(0,(0,0),((0,0),(0,0),0,0,0),[],false)
def jQ (e f:Int):WA:=(an4,0,e,f)
def an5 (r:Raw):List AV:=[.int .i64 r.1,.int .i64 r.2.1.1,.int .i64 r.2.1.2,.int .i64 r.2.2.1.1.1,.int .i64 r.2.2.1.1.2,.int .i64 r.2.2.1.2.1.1,.int .i64 r.2.2.1.2.1.2,.int .i64 r.2.2.1.2.2.1,.int .i64 r.2.2.1.2.2.2.1,.int .i64 r.2.2.1.2.2.2.2,.dW fL r.2.2.2.1,.bool r.2.2.2.2]
def aag (r:WA):List AV:=[.agg (an5 r.1),.int .i64 r.2.1,.agg [.int .i64 r.2.2.1,.int .i64 r.2.2.2]]
abbrev rN:=Option (List AV)
def pG (r:WA):rN:=some (aag r)
def sgR:List (List (Option Tv.Ty)):=[[none,none,none,none,none,none,none,none,none,none,some fL,none],[none],[none,none]]
def aki (p:List Nd×Int×Int×Int)(sz:Int):WA:=((2,(0,0),((8,0),(0,0),0,0,sz),p.1,true),p.2.1+1,0,0)
def afo (s:TS)(sz en:Int)(x:List Nd):WA:=((2,(0,0),((s.bc,s.bn),(s.ic,s.ix),s.sc,0,sz),x,false),en+1,0,0)
def SF:TS:=⟨0,0,0,0,0,[]⟩
def EU (l:List Tok)(op en sz:Int)(o:qL):WA :=
 if o.1=false then jQ o.2.1 o.2.2.1
 else if o.2.2.2.put=[] then (if LO o.2.2.2.bc o.2.2.2.bn o.2.2.2.ic o.2.2.2.ix o.2.2.2.sc 0 sz=0 then afo o.2.2.2 sz en [] else jQ 2 op)
 else if (bq o.2.2.2.put 0).2.2.1≠0 then jQ (bq o.2.2.2.put 0).2.2.1 op
 else if (bq o.2.2.2.put 0).2.1<o.2.2.2.put.length then jQ 4 op
 else if LO o.2.2.2.bc o.2.2.2.bn o.2.2.2.ic o.2.2.2.ix o.2.2.2.sc 0 sz=0 then afo o.2.2.2 sz en (bq o.2.2.2.put 0).1 else jQ 2 op
def oK (l:List Tok)(op sz:Int):WA :=
 if qU ((at? l (op+1)).getD Wm) [114,101,108]=true then
  if (bq l (op+2)).2.2.1≠0 then jQ (bq l (op+2)).2.2.1 (bq l (op+2)).2.2.2
  else if dF l (bq l (op+2)).2.1 [93]=true then aki (bq l (op+2)) sz else jQ 4 (bq l (op+2)).2.1
 else match mF l (op+1) with
  |none=>jQ 4 l.length
  |some en=>EU l op en sz (nr l op en SF)
def flP (o:qL)(e op:Int):rN:=ah (bI o.2.1 0) (pG (jQ e op)) (pG (jQ o.2.1 o.2.2.1))
def ckP (l:List Tok)(op en sz:Int)(o:qL)(x:List Nd):rN :=
 ah (!bI (LO o.2.2.2.bc o.2.2.2.bn o.2.2.2.ic o.2.2.2.ix o.2.2.2.sc 0 sz) 0) (flP o 2 op) (pG ((2,(0,0),((o.2.2.2.bc,o.2.2.2.bn),(o.2.2.2.ic,o.2.2.2.ix),o.2.2.2.sc,0,sz),x,false),IntKind.wrap .i64 (en+1),0,0))
def EP (l:List Tok)(op en sz:Int)(o:qL):rN :=
 ah (!o.1) (pG (jQ o.2.1 o.2.2.1)) (ah (bI o.2.2.2.put.length 0) (ckP l op en sz o [])
  (ah (Nat.ble o.2.2.2.put.length 2000000) (ah (!bI (bq o.2.2.2.put 0).2.2.1 0) (flP o (bq o.2.2.2.put 0).2.2.1 op)
   (ah (bB (bq o.2.2.2.put 0).2.1 o.2.2.2.put.length) (flP o 4 op) (ckP l op en sz o (bq o.2.2.2.put 0).1))) none))
def alB (l:List Tok)(op en:Int):Bool:=Nat.ble l.length 200000 && !bB op 0 && !bB en (op+1)&&bB en l.length&&true&&dF l en [93]
def plT (l:List Tok)(op sz:Int):rN :=
 (λrel cl:rN=>ah (bB (IntKind.wrap .i64 (op+1)) l.length) (Option.rec (motive:=λ_=>rN) none (λy=>ah (qU y [114,101,108]) rel cl) (dX l (IntKind.wrap .i64 (op+1)))) cl)
  (ah (Nat.ble l.length 2000000) (ah (!bI (bq l (IntKind.wrap .i64 (op+2))).2.2.1 0) (pG (jQ (bq l (IntKind.wrap .i64 (op+2))).2.2.1 (bq l (IntKind.wrap .i64 (op+2))).2.2.2))
   (ah (!bB (bq l (IntKind.wrap .i64 (op+2))).2.1 0) (ah (!dF l (bq l (IntKind.wrap .i64 (op+2))).2.1 [93]) (pG (jQ 4 (bq l (IntKind.wrap .i64 (op+2))).2.1))
    (pG ((2,(0,0),((8,0),(0,0),0,0,sz),(bq l (IntKind.wrap .i64 (op+2))).1,true),IntKind.wrap .i64 ((bq l (IntKind.wrap .i64 (op+2))).2.1+1),0,0))) none)) none)
  (ah (Nat.ble l.length 2000000 && !bB (IntKind.wrap .i64 (op+1)) 0 && !bB l.length (IntKind.wrap .i64 (op+1))) (ah (!(mF l (IntKind.wrap .i64 (op+1))).isSome) (pG (jQ 4 l.length))
   (ah (alB l op ((mF l (IntKind.wrap .i64 (op+1))).getD 0)&&true&&true) (EP l op ((mF l (IntKind.wrap .i64 (op+1))).getD 0) sz (nr l op ((mF l (IntKind.wrap .i64 (op+1))).getD 0) SF)) none)) none)
theorem aah (l:List Tok)(op sz:Int):aT X0 (cN P2 NA _) ia 5 162 [.dW dJ l,.int .i64 op,.int .i64 sz] aH.empty (xY sgR)=plT l op sz:=by kernel_rfl
theorem GZ {e:Int}:∀(r:List Tok) (a d:Int),qd r a d=some e->a<=e/\e<a+r.length/\∃c,at? r (e-a)=some c/\pJ c [93]=true
 |[],a,d,h=>by cases h
 |t::r,a,d,h=>by
  have step:∀d',qd r (a+1) d'=some e->a<=e/\e<a+(t::r).length/\∃c,at? (t::r) (e-a)=some c/\pJ c [93]=true:=λd' h=>by
   obtain⟨h1,h2,c,h3,h4⟩:=GZ r (a+1) d' h;refine⟨by omega,by simp;omega,c,?_,h4⟩;obtain⟨k,hk⟩:∃k:Nat,e-(a+1)=k:=⟨(e-(a+1)).toNat,by omega⟩;rw[show e-a=((k+1:Nat):Int) by omega];rw[hk]at h3;exact h3
  unfold qd at h;split at h
  .exact step _ h
  split at h
  .exact step _ h
  split at h
  .rename_i hc;cases h;refine⟨bx _,by simp;omega,t,?_,hc.2⟩;rw[Int.sub_self];rfl
  exact step _ h
theorem BM {l:List Tok}{a e:Int}(h0:0<=a)(h1:a<=l.length)(h:mF l a=some e):a<=e/\e<l.length/\dF l e [93]=true:=by
 obtain⟨k1,k2,c,k3,k4⟩:=GZ _ _ _ h;rw[bR]at k2;refine⟨k1,by omega,?_⟩;have:at? l e=some c:=by
  obtain⟨n,hn⟩:∃n:Nat,e-a=n:=⟨(e-a).toNat,by omega⟩;rw[hn]at k3;have k3:(l.drop a.toNat)[n]? = some c:=k3;rw[fS]at k3;rw[show e=((a.toNat+n:Nat):Int) by omega];exact k3
 unfold dF;rw[this];exact k4
theorem uo {l:List Tok}{a:Int}(h:(bq l a).2.2.1=0):a<(bq l a).2.1/\(bq l a).2.1<=l.length:=by
 obtain⟨⟨y,e,f,g⟩,hr⟩:=vl (nm:=bX) l a;have e1:bq l a=(y,e,f,g):=by unfold bq;rw[hr];rfl
 rw[e1]at h ⊢;exact((LM hr).2 h).2
theorem Jf {l:List Tok}{en:Int}:∀(m:Nat) (sg:List UInt8) (a:Int) (s:TS) (o:qL),oJ rp l en m sg a s=some o->o.1=true->o.2.1=0/\o.2.2.1=0
 |0,_,_,_,_,h,_=>by cases h
 |m+1,sg,a,s,o,h,ho=>by
  unfold Pp.oJ at h;split at h
  .split at h
   .cases h;exact⟨rfl,rfl⟩
   split at h
   .exact Jf m _ _ _ o h ho
   cases h
  cases h;cases ho
theorem Qv {l:List Tok}{op en:Int}{s:TS}(h:(nr l op en s).1=true):(nr l op en s).2.1=0/\(nr l op en s).2.2.1=0:=by
 have key:∀r:Option qL,(∀o,r=some o->o.1=true->o.2.1=0/\o.2.2.1=0)->(r.getD (lC s 0 0)).1=true->(r.getD (lC s 0 0)).2.1=0/\(r.getD (lC s 0 0)).2.2.1=0:=λr h1 h2=>by
  cases r with
  |none=>cases h2
  |some o=>exact h1 o rfl h2
 unfold nr at h ⊢;refine key _ (λo ho=>?_) h;split at ho
 .exact Jf _ _ _ _ o ho
 exact Jf _ _ _ _ o ho
theorem EV {l:List Tok}{en:Int}(hel:en<l.length):∀(m:Nat) (sg:List UInt8) (a:Int) (s:TS) (o:qL),0<=a->a<=en->(s.put.length:Int)<=4*a->oJ rp l en m sg a s=some o->(o.2.2.2.put.length:Int)<=4*en+4
 |0,_,_,_,_,_,_,_,h=>by cases h
 |m+1,sg,a,s,o,h0,h1,h2,h=>by
  obtain⟨b1,b2⟩:=Am (l:=l) (a:=a) (e:=en) h0 h1 (by omega);have hput:=LW (l:=l) (sg:=sg) (a:=a) (b:=fP l a en) (s:=s) h0 b1;unfold Pp.oJ at h;split at h
  .rename_i s' hs;rw[hs]at hput;simp only at hput;split at h
   .cases h;show (s'.put.length:Int)<=_;omega
   split at h
   .exact EV hel m _ _ _ o (by omega) (by omega) (by omega) h
   cases h
  rename_i x f s' hs;rw[hs]at hput;cases h;show (s'.put.length:Int)<=_;simp only at hput;omega
theorem WB {l:List Tok}{op en:Int}{s:TS}(h0:0<=op)(h1:op+1<=en)(h2:en<l.length)(hs:s.put=[])(hc:dF l en [93]=true):((nr l op en s).2.2.2.put.length:Int)<=4*en+4:=by
 obtain⟨ce,hce,YF⟩:=kg hc;have key:∀r:Option qL,(∀o,r=some o->(o.2.2.2.put.length:Int)<=4*en+4)->((r.getD (lC s 0 0)).2.2.2.put.length:Int)<=4*en+4:=λr h=>by
  cases r with
  |none=>show (s.put.length:Int)<=_;rw[hs];show (0:Int)<=_;omega
  |some o=>exact h o rfl
 unfold nr;refine key _ λo ho=>?_
 split at ho
 .rename_i hsg;have:op+2<=en:=by
   by_cases he:en=op+1
   .exfalso;rw[he]at hce;rcases hsg with h|h<;>(obtain⟨c2,k1,k2⟩:=kg h;rw[hce]at k1;cases k1;rw[ET YF (by decide)]at k2;cases k2)
   omega
  exact EV h2 _ _ _ _ o (by omega) this (by rw[hs];show (0:Int)<=_;omega) ho
 exact EV h2 _ _ _ _ o (by omega) h1 (by rw[hs];show (0:Int)<=_;omega) ho
theorem aai {l:List Tok}{op en sz:Int}{o:qL}(hok:o.1=true->o.2.1=0/\o.2.2.1=0)(hp:o.2.2.2.put.length<=2000000)(he:0<=en)(he2:en<=2000000):EP l op en sz o=pG (EU l op en sz o):=by
 unfold EP EU;cases ho:o.1 with
 |false=>rfl
 |true =>
  obtain⟨h1,h2⟩:=hok ho;have hfl:∀e,flP o e op=pG (jQ e op):=λe=>by unfold flP;rw[h1];rfl
  have hck:∀x,ckP l op en sz o x=pG (if LO o.2.2.2.bc o.2.2.2.bn o.2.2.2.ic o.2.2.2.ix o.2.2.2.sc 0 sz=0 then afo o.2.2.2 sz en x else jQ 2 op):=λx=>by
   unfold ckP;rw[cX,hfl,i64_in (n:=en+1) (by omega) (by omega)];split<;>rfl
  show ah (bI o.2.2.2.put.length 0) _ _=_;rw[hck,hck,hfl,hfl,ck,cX,cG,ee hp,aa (show ¬true=false by decide)];by_cases hz:o.2.2.2.put=[]
  .rw[ag (by rw[hz];rfl),ag hz]
  rw[aa (by have:0<o.2.2.2.put.length:=dG.2 hz;omega),aa hz];show ite _ _ _=_;by_cases h3:(bq o.2.2.2.put 0).2.2.1=0
  .rw[ag h3,aa (show ¬(bq o.2.2.2.put 0).2.2.1≠0 from λh=>h h3)];split<;>rfl
  rw[aa h3,ag h3]
theorem afq {l:List Tok}{op sz:Int}(hl:l.length<=200000)(h0:0<=op)(h1:op<l.length):plT l op sz=pG (oK l op sz):=by
 unfold plT oK;simp only;rw[i64_in (n:=op+1) (by omega) (by omega),i64_in (n:=op+2) (by omega) (by omega),ee (show l.length<=2000000 by omega),fG (show (0:Int)<=op+1 by omega),fG (show op+1<=(l.length:Int) by omega)];have nY:ah (true && !false && !false) (ah (!(mF l (op+1)).isSome) (pG (jQ 4 l.length))
  (ah (alB l op ((mF l (op+1)).getD 0)&&true&&true) (EP l op ((mF l (op+1)).getD 0) sz (nr l op ((mF l (op+1)).getD 0) SF)) none)) none=pG (match mF l (op+1) with
  |none=>jQ 4 l.length
  |some en=>EU l op en sz (nr l op en SF)):=by
  cases hc:mF l (op+1) with
  |none=>rfl
  |some en =>
   obtain⟨c1,c2,c3⟩:=BM (by omega) (by omega) hc;have hal:alB l op en=true:=by
    unfold alB;rw[ee hl,fG h0,fG (show op+1<=en by omega),pL c2,c3];rfl
   show ah (alB l op en&&true&&true) _ _=_;rw[hal];show EP l op en sz (nr l op en SF)=_;exact aai Qv (by have:=WB (s:=SF) h0 c1 c2 rfl c3;omega) (by omega) (by omega)
 rw[nY];have hrel:ah true (ah (!bI (bq l (op+2)).2.2.1 0) (pG (jQ (bq l (op+2)).2.2.1 (bq l (op+2)).2.2.2))
  (ah (!bB (bq l (op+2)).2.1 0) (ah (!dF l (bq l (op+2)).2.1 [93]) (pG (jQ 4 (bq l (op+2)).2.1))
   (pG ((2,(0,0),((8,0),(0,0),0,0,sz),(bq l (op+2)).1,true),IntKind.wrap .i64 ((bq l (op+2)).2.1+1),0,0))) none)) none=pG (if (bq l (op+2)).2.2.1≠0 then jQ (bq l (op+2)).2.2.1 (bq l (op+2)).2.2.2
  else if dF l (bq l (op+2)).2.1 [93]=true then aki (bq l (op+2)) sz else jQ 4 (bq l (op+2)).2.1):=by
  show ah (!bI (bq l (op+2)).2.2.1 0) _ _=_;rw[cX];by_cases h3:(bq l (op+2)).2.2.1=0
  .obtain ⟨q1,q2⟩:=uo h3;rw[ag h3,aa (show ¬(bq l (op+2)).2.2.1≠0 from λh=>h h3),fG (by omega),i64_in (n:=(bq l (op+2)).2.1+1) (by omega) (by omega)];cases dF l (bq l (op+2)).2.1 [93]<;>rfl
  rw[aa h3,ag h3]
 rw[hrel,getI_at?,cG];cases jw:at? l (op+1) with
 |none =>
  have:=jt (by omega) jw;rw[aa (by omega)];rfl
 |some y =>
  rw[ag (jh jw).2];show ah (qU y [114,101,108]) _ _=pG (if qU y [114,101,108]=true then _ else _);cases qU y [114,101,108]<;>rfl
def gV (f:List AV->Option (Bool×List AV))(ins:List fK):Option (Bool×List fK×List fK) :=
 match Jg ins with
 |some vs=>match f vs with
  |some (c,ws)=>some (c,[],ws.map .val)
  |none=>none
 |none=>none
where Jg:List fK->Option (List AV)
 |[]=>some []
 |.val v::l=>match Jg l with
  |some vs=>some (v::vs)
  |none=>none
 |.list _ _ _::_=>none
theorem tu:∀{ins:List fK} {vs:List AV},gV.Jg ins=some vs->ins=vs.map .val
 |[],vs,h=>by cases h;rfl
 |.val v::l,vs,h=>by
  unfold gV.Jg at h;split at h
  .rename_i vs' h1;cases h;rw[tu h1];rfl
  cases h
 |.list _ _ _::_,_,h=>by cases h
theorem za:∀(l:List AV) (M:aH),cO M (l.map .val)=M
 |[],_=>rfl
 |_::l,M=>za l M
theorem Qw {id:FuncId}(hk:lt.inl id=true){M:List xX}{N:List rL}(hM:jx X0 gW M)(hN:js X0 gW N){sig:List (Option (TypeId×Tv.Ty))}{f:List AV->Option (Bool×List AV)}(sg:List (List (Option Tv.Ty)))
 (h:∀vs ws,f vs=some (true,ws)->ws.all FN=true/\∃an rounds,aT X0 (cN M N _) an rounds id vs aH.empty (xY sg)=some ws):iB X0 gW id ⟨none,sig,gV f⟩ :=
 LS (nk hk) (kA hM hN) sg λins outs rs hg=>by
  unfold gV at hg;split at hg;case h_2=>cases hg
  rename_i vs hv;split at hg;case h_2=>cases hg
  rename_i c ws hf;simp only[aq,ax]at hg;obtain⟨rfl,_,rfl⟩:=hg;obtain⟨h1,an,rounds,h2⟩:=h vs ws hf;have hi:=tu hv;subst hi;refine⟨an,rounds,ws,?_,rfl,h1⟩;rw[vm,za];exact h2
def fPl (args:List AV):Option (Bool×List AV) :=
 match args with
 |[L,.int .i64 op,.int .i64 sz]=>match asL dJ L with
  |some l=>some (Nat.ble l.length 200000 && !bB op 0&&bB op l.length,aag (oK l op sz))
  |none=>none
 |_=>none
theorem Qx (r:WA):(aag r).all FN=true:=rfl
theorem afr:iB X0 gW 162 ⟨none,[none,none,none],gV fPl⟩ :=
 Qw rfl Cp acH sgR λvs ws hf=>by
  unfold fPl at hf;split at hf;case h_2=>cases hf
  rename_i L op sz;split at hf;case h_2=>cases hf
  rename_i l hl;simp only[aq,ax,ak,aS]at hf;obtain⟨⟨⟨g0,g1⟩,g2⟩,rfl⟩:=hf;have g0:=az g0;have g1:=I9 g1;have g2:op<l.length:=by rw[cB]at g2;simpa using g2
  refine⟨Qx _,ia,5,?_⟩;rw[uf hl,aah,afq g0 g1 g2];rfl
def NP:List rL:=(162,⟨none,[none,none,none],gV fPl⟩)::NA
theorem acI:js X0 gW NP:=.cons afr acH
def CJ (p:List Nd×Int×Int×Int):WA:=if p.2.2.1≠0 then jQ p.2.2.1 p.2.2.2 else ((3,(0,0),((0,0),(0,0),0,0,0),p.1,false),p.2.1,0,0)
def an8 (r:Rg)(a:Int):WA:=((1,r,((0,0),(0,0),0,0,0),[],false),a+1,0,0)
def bC (l:List Tok)(a:Int):WA :=
 if a<0\/(l.length:Int)<a then jQ 2 0 else
 match at? l a with
 |none=>CJ (bq l a)
 |some t=>match qe rp t with
  |some r=>an8 r a
  |none=>if 0<(pF t).1 then (if dF l (a+1) [91]=true then oK l (a+1) (pF t).1 else jQ 4 (a+1))
   else if dF l a [91]=true then oK l a 0 else CJ (bq l a)
def aaj (l:List Tok)(a:Int):rN:=ah (Nat.ble l.length 2000000) (ah (!bI (bq l a).2.2.1 0) (pG (jQ (bq l a).2.2.1 (bq l a).2.2.2)) (pG ((3,(0,0),((0,0),(0,0),0,0,0),(bq l a).1,false),(bq l a).2.1,0,0))) none
def plB (l:List Tok)(a:Int):Bool:=Nat.ble l.length 200000 && !bB a 0&&bB a l.length
def Tt (l:List Tok)(a:Int):rN :=
 ah (bB a 0) (pG (jQ 2 0)) (ah (bB l.length a) (pG (jQ 2 0)) (ah (bB a l.length) (Option.rec (motive:=λ_=>rN) none (λt=>ah (qe rp t).isSome
  (pG ((1,(qe rp t).getD (0,0),((0,0),(0,0),0,0,0),[],false),IntKind.wrap .i64 (a+1),0,0))
  (Option.rec (motive:=λ_=>rN) none (λt=>ah (bB 0 (pF t).1)
   (ah (!bB (IntKind.wrap .i64 (a+1)) 0) (ah (!dF l (IntKind.wrap .i64 (a+1)) [91]) (pG (jQ 4 (IntKind.wrap .i64 (a+1)))) (ah (plB l (IntKind.wrap .i64 (a+1))) (pG (oK l (IntKind.wrap .i64 (a+1)) (pF t).1)) none)) none)
   (ah (!bB a 0) (ah (dF l a [91]) (ah (plB l a) (pG (oK l a 0)) none) (aaj l a)) none)) (dX l a))) (dX l a)) (aaj l a)))
theorem aak (l:List Tok)(a:Int):aT X0 (cN P2 NP _) ia 5 133 [.dW dJ l,.int .i64 a] aH.empty (xY sgR)=Tt l a:=by kernel_rfl
theorem aal {l:List Tok}{a:Int}(hl:l.length<=200000):aaj l a=pG (CJ (bq l a)):=by
 unfold aaj CJ;rw[ee (show l.length<=2000000 by omega)];show ah (!bI (bq l a).2.2.1 0) _ _=_;rw[cX];by_cases h:(bq l a).2.2.1=0
 .rw[ag h,aa (show ¬(bq l a).2.2.1≠0 from λq=>q h)]
 rw[aa h,ag h]
theorem afs {l:List Tok}{a:Int}(hl:l.length<=200000):Tt l a=pG (bC l a):=by
 unfold Tt bC;rw[cG,cG,cG,aal hl];by_cases h0:a<0
 .rw[ag h0,ag (.inl h0)]
 rw[aa h0];by_cases h1:(l.length:Int)<a
 .rw[ag h1,ag (.inr h1)]
 rw[aa h1,aa (show ¬(a<0\/(l.length:Int)<a) by omega),getI_at?];cases jw:at? l a with
 |none =>
  have:=jt (by omega) jw;rw[aa (by omega)]
 |some t =>
  have hlt:=(jh jw).2;rw[ag hlt];simp only;rw[i64_in (n:=a+1) (by omega) (by omega),fG (show (0:Int)<=a+1 by omega),fG (show (0:Int)<=a by omega)];cases hr:qe rp t with
  |some r=>rfl
  |none =>
   show ah (bB 0 (pF t).1) _ _=_;rw[cG];simp only;by_cases hw:0<(pF t).1
   .rw[ag hw,ag hw];cases hs:dF l (a+1) [91] with
    |false=>rfl
    |true =>
     obtain⟨c,hc,_⟩:=kg hs;have:=(jh hc).2;show ah (plB l (a+1)) _ _=_;unfold plB;rw[ee hl,fG (show (0:Int)<=a+1 by omega),pL this];rfl
   rw[aa hw,aa hw];show ah (dF l a [91]) _ _=_;cases hs:dF l a [91] with
   |false=>rfl
   |true =>
    show ah (plB l a) _ _=_;unfold plB;rw[ee hl,fG (show (0:Int)<=a by omega),pL hlt];rfl
def fOp (args:List AV):Option (Bool×List AV) :=
 match args with
 |[L,.int .i64 a]=>match asL dJ L with
  |some l=>some (Nat.ble l.length 200000,aag (bC l a))
  |none=>none
 |_=>none
theorem aft:iB X0 gW 133 ⟨none,[none,none],gV fOp⟩ :=
 Qw rfl Cp acI sgR λvs ws hf=>by
  unfold fOp at hf;split at hf;case h_2=>cases hf
  rename_i L a;split at hf;case h_2=>cases hf
  rename_i l hl;simp only[aq,ax]at hf;obtain⟨g0,rfl⟩:=hf;have g0:=az g0;refine⟨Qx _,ia,5,?_⟩;rw[uf hl,aak,afs g0];rfl
def NQ:List rL:=(133,⟨none,[none,none],gV fOp⟩)::NP
theorem acJ:js X0 gW NQ:=.cons aft acI
abbrev Jh:=Int×Int×List Raw×Int×Int
def akl (c:Jh):List AV:=[.agg [.int .i64 c.1,.int .i64 c.2.1,.dW nu c.2.2.1],.agg [.int .i64 c.2.2.2.1,.int .i64 c.2.2.2.2]]
def uq (c:Jh):rN:=some (akl c)
def MN (e f:Int):Jh:=(0,0,[],e,f)
def sgC:List (List (Option Tv.Ty)):=[[none,none,some nu],[none,none]]
def pCm:List Bool:=[true,true,true,true,true,true,true,true,false]
def LX:eD:=⟨gZ [0,4,5,6,8,9] pCm,.none,[]⟩
def fCm (l:List Tok)(op a:Int):fF:=lz 115 [(0,.dW dJ l),(4,.ptr 0 0),(5,.ptr 1 0),(6,.int .i64 op),(8,.ptr 2 0),(9,.int .i64 a)]
def mCm (op hint:Int)(arg:AV)(rows:List Row):aH:=pz ([.cells 42 [.int .i64 0,.int .i64 0,.dg],.cells 48 [.int .i64 0,.int .i64 0],.cells 42 [.int .i64 op,.int .i64 hint,arg]]++rows)
def WC (l:List Tok)(op hint:Int)(r m:Nat)(a:Int):rN:=jf X0 (cN P2 NQ _) LX r 93 pCm (xY sgC) m (fCm l op a) (mCm op hint .dg [])
def Qy (l:List Tok)(op hint:Int)(r m:Nat)(n:Nat)(a:Int)(args:List Raw):rN:=jf X0 (cN P2 NQ _) LX r 93 pCm (xY sgC) m (fCm l op a) (mCm op hint (.own 3 n) [.list 132 nu args 0 false false])
def Ji (l:List Tok)(op hint:Int)(J:Nat->Int->List Raw->rN)(a:Int)(args:List Raw):rN :=
 (λX:Raw->rN=>ah (Nat.ble l.length 200000) (ah (!bI (bC l a).2.2.1 0) (uq (MN (bC l a).2.2.1 (bC l a).2.2.2))
  (ah (bI (bC l a).1.1 3) (ah (tj op) (X (4,(bC l a).1.2)) (X (bC l a).1)) (X (bC l a).1))) none)
 (λraw=>ah (Nat.ble (args.length+1) 2000000) (ah (bI (bC l a).2.1 l.length) (uq (op,hint,args++[raw],0,0))
  (ah (!bB (bC l a).2.1 0) (ah (!dF l (bC l a).2.1 [44]) (uq (MN 4 (bC l a).2.1)) (ah (bI ((args.length+1:Nat):Int) 4) (uq (MN 3 (bC l a).2.1))
   (J (args.length+1) (IntKind.wrap .i64 ((bC l a).2.1+1)) (args++[raw])))) none)) none)
theorem aam (l:List Tok)(op hint:Int)(r m:Nat)(a:Int):WC l op hint r (m+1) a=Ji l op hint (λn a args=>Qy l op hint r m n a args) a []:=by kernel_rfl
theorem Jj (l:List Tok)(op hint:Int)(r m n:Nat)(a:Int)(args:List Raw):Qy l op hint r (m+1) n a args=Ji l op hint (λn a args=>Qy l op hint r m n a args) a args:=by kernel_rfl
def cmT (l:List Tok)(a:Int)(J:Int->Int->Int->rN):rN :=
 ah (bB a 0) (uq (MN 2 0)) (ah (bB l.length a) (uq (MN 2 0)) (ah (!bB a 0) (ah (!(JN l a).2) (uq (MN 6 a))
  ((
   λgo:Int->Int->rN=>ah (bB (IntKind.wrap .i64 (a+1)) l.length) (Option.rec (motive:=λ_=>rN) none (λt=>ah (!bI (pF t).2 0) (go (pF t).2 (IntKind.wrap .i64 (IntKind.wrap .i64 (a+1)+1))) (go 0 (IntKind.wrap .i64 (a+1)))) (dX l (IntKind.wrap .i64 (a+1)))) (go 0 (IntKind.wrap .i64 (a+1))))
   (λhint b=>ah (bI b l.length) (uq ((JN l a).1,hint,[],0,0)) (J (JN l a).1 hint b)))) none))
theorem Jk (l:List Tok)(a:Int)(r:Nat):aT X0 (cN P2 NQ _) LX r 93 [.dW dJ l,.int .i64 a] aH.empty (xY sgC)=cmT l a (λop hint b=>WC l op hint r r b):=by kernel_rfl
def CK (op:Int)(w:Raw):Raw:=if w.1=3/\tj op=true then (4,w.2) else w
def LY (l:List Tok)(op hint:Int):Nat->Int->List Raw->Option Jh
 |0,_,_=>none
 |n+1,a,args =>
  if (bC l a).2.2.1≠0 then some (MN (bC l a).2.2.1 (bC l a).2.2.2)
  else if (bC l a).2.1=l.length then some (op,hint,args++[CK op (bC l a).1],0,0)
  else if dF l (bC l a).2.1 [44]=false then some (MN 4 (bC l a).2.1)
  else if args.length+1=4 then some (MN 3 (bC l a).2.1)
  else LY l op hint n ((bC l a).2.1+1) (args++[CK op (bC l a).1])
def SG (l:List Tok)(op h a:Int):Jh :=
 if (if h=0 then a+1 else a+2)=(l.length:Int) then (op,h,[],0,0) else (LY l op h 5 (if h=0 then a+1 else a+2) []).getD (MN 0 0)
def sK (l:List Tok)(a:Int):Int:=match at? l (a+1) with
 |some t=>(pF t).2
 |none=>0
def ep (l:List Tok)(a:Int):Jh :=
 if a<0\/(l.length:Int)<a then MN 2 0
 else if (JN l a).2=false then MN 6 a
 else SG l (JN l a).1 (sK l a) a
theorem tq {l:List Tok}{i:Int}(h0:0<=i)(h1:i<l.length):∃t,at? l i=some t:=by
 cases jw:at? l i with
 |some t=>exact⟨t,rfl⟩
 |none=>have:=jt h0 jw;omega
theorem WD {l:List Tok}{sg:List UInt8}{a b:Int}{s:TS}(h0:0<=a)(hb:b<=l.length)(h:(mP rp l sg a b s).1=false):(mP rp l sg a b s).2.1≠0:=by
 have key:∀o:qL,(∃s e f,e≠0/\o=lC s e f)\/(∃s,o=okO s)->o.1=false->o.2.1≠0:=λo ho h=>by
  rcases ho with⟨s,e,f,he,rfl⟩|⟨s,rfl⟩
  .exact he
  cases h
 have hal:∀r,(∃s' e f,e≠0/\mG sg r a s=lC s' e f)\/(∃s',mG sg r a s=okO s'):=λr=>by
  unfold mG;split
  .exact .inl ⟨_,_,_,by decide,rfl⟩
  split
  .exact .inr ⟨_,rfl⟩
  split
  .exact .inr ⟨_,rfl⟩
  exact .inl ⟨_,_,_,by decide,rfl⟩
 have hsc:∀r num n,(∃s' e f,e≠0/\iW sg r a num n s=lC s' e f)\/(∃s',iW sg r a num n s=okO s'):=λr num n=>by
  unfold iW;split
  .exact .inl ⟨_,_,_,by decide,rfl⟩
  split
  .exact .inr ⟨_,rfl⟩
  exact .inl ⟨_,_,_,by decide,rfl⟩
 refine key _ ?_ h;unfold mP;split
 .exact .inl ⟨_,_,_,by decide,rfl⟩
 split
 .obtain ⟨t,ht⟩:=tq (l:=l) (i:=a) h0 (by omega);rw[ht];simp only;split
  .exact hal _
  split
  .exact hal _
  exact .inr ⟨_,rfl⟩
 split
 .obtain ⟨t,ht⟩:=tq (l:=l) (i:=a) h0 (by omega);obtain⟨u,hu⟩:=tq (l:=l) (i:=a+2) (by omega) (by omega);rw[ht,hu];simp only;split
  .split
   .exact hsc _ _ _
   split
   .exact hsc _ _ _
   exact .inr ⟨_,rfl⟩
  .split
   .exact hsc _ _ _
   exact .inr ⟨_,rfl⟩
  .split
   .exact hsc _ _ _
   exact .inr ⟨_,rfl⟩
  exact .inr ⟨_,rfl⟩
 exact .inr ⟨_,rfl⟩
theorem EW {l:List Tok}{en:Int}(hel:en<l.length):∀(m:Nat) (sg:List UInt8) (a:Int) (s:TS) (o:qL),0<=a->a<=en->Pp.oJ rp l en m sg a s=some o->o.1=false->o.2.1≠0
 |0,_,_,_,_,_,_,h,_=>by cases h
 |m+1,sg,a,s,o,h0,h1,h,ho=>by
  obtain⟨b1,b2⟩:=Am (l:=l) (a:=a) (e:=en) h0 h1 (by omega);have hb:=WD (l:=l) (sg:=sg) (a:=a) (b:=fP l a en) (s:=s) h0 (by omega);unfold Pp.oJ at h;split at h
  .split at h
   .cases h;cases ho
   split at h
   .exact EW hel m _ _ _ o (by omega) (by omega) h ho
   cases h
  rename_i x f s' hs;cases h;rw[hs]at hb;exact hb rfl
theorem WE {l:List Tok}{op en:Int}{s:TS}(hl:l.length<=200000)(hs:s.put=[])(h0:0<=op)(h1:op+1<=en)(h2:en<l.length)(hc:dF l en [93]=true)(h:(nr l op en s).1=false):(nr l op en s).2.1≠0:=by
 obtain⟨ce,hce,YF⟩:=kg hc;have key:∀r:Option qL,(∃o,r=some o)->(∀o,r=some o->o.1=false->o.2.1≠0)->(r.getD (lC s 0 0)).1=false->(r.getD (lC s 0 0)).2.1≠0:=λr ⟨o,ho⟩ h1 h2=>by
  subst ho;exact h1 o rfl h2
 have hput:∀a:Int,0<=a->(s.put.length:Int)<=4*a:=λa h=>by rw[hs];show (0:Int)<=_;omega
 unfold nr at h ⊢;refine key _ ?_ (λo ho=>?_) h
 .split
  .rename_i hsg;have:op+2<=en:=by
    by_cases he:en=op+1
    .exfalso;rw[he]at hce;rcases hsg with h|h<;>(obtain⟨c2,k1,k2⟩:=kg h;rw[hce]at k1;cases k1;rw[ET YF (by decide)]at k2;cases k2)
    omega
   obtain⟨o,h3,_⟩:=Je (l:=l) (op:=op) (en:=en) (sz:=0) (r:=0) hl h2 (l.length+1) ((at? l (op+1)).getD Wm).2.2.1 (op+2) s (by omega) this (hput _ (by omega)) (by omega);exact⟨o,h3⟩
  obtain⟨o,h3,_⟩:=Je (l:=l) (op:=op) (en:=en) (sz:=0) (r:=0) hl h2 (l.length+1) [43] (op+1) s (by omega) h1 (hput _ (by omega)) (by omega);exact⟨o,h3⟩
 split at ho
 .rename_i hsg;have:op+2<=en:=by
   by_cases he:en=op+1
   .exfalso;rw[he]at hce;rcases hsg with h|h<;>(obtain⟨c2,k1,k2⟩:=kg h;rw[hce]at k1;cases k1;rw[ET YF (by decide)]at k2;cases k2)
   omega
  exact EW h2 _ _ _ _ o (by omega) this ho
 exact EW h2 _ _ _ _ o (by omega) h1 ho
theorem G0 {l:List Tok}{op sz:Int}(hl:l.length<=200000)(h0:0<=op)(h1:op<l.length)(h:(oK l op sz).2.2.1=0):op<(oK l op sz).2.1/\(oK l op sz).2.1<=l.length:=by
 have hnone:∀e f,(jQ e f).2.2.1=0->e=0:=λe f h=>h
 unfold oK at h ⊢;split at h
 .rename_i hr;rw[ag hr];split at h
  .rename_i he;exact absurd h he
  rename_i he;have he:(bq l (op+2)).2.2.1=0:=dH.1 he;obtain⟨q1,q2⟩:=uo he;rw[aa (λq=>q he)];split at h
  .rename_i hs;rw[ag hs];obtain⟨c,hc,_⟩:=kg hs;have:=(jh hc).2;show op<(bq l (op+2)).2.1+1/\(bq l (op+2)).2.1+1<=_;omega
  cases h
 rename_i hr;rw[aa hr];split at h
 .cases h
 rename_i en hc;obtain⟨c1,c2,c3⟩:=BM (by omega) (by omega) hc;have key:∀o,(∀b,o.1=b->b=true->o.2.1=0/\o.2.2.1=0)->(EU l op en sz o).2.2.1=0->(EU l op en sz o).2.1=en+1\/(o.1=false/\o.2.1=0):=λo _ h=>by
  unfold EU at h ⊢;split at h
  .rename_i ho;exact .inr ⟨ho,h⟩
  rename_i ho;rw[aa ho];left
  split at h
  .rename_i hp;rw[ag hp];split at h
   .rename_i hm;rw[ag hm];rfl
   cases h
  rename_i hp;rw[aa hp];split at h
  .rename_i he;exact absurd h he
  rename_i he;rw[aa he];split at h
  .cases h
  rename_i hq;rw[aa hq];split at h
  .rename_i hm;rw[ag hm];rfl
  cases h
 rcases key (nr l op en SF) (λb hb ht=>Qv (hb.trans ht)) h with hk|⟨k1,k2⟩
 .show op<(EU l op en sz (nr l op en SF)).2.1/\(EU l op en sz (nr l op en SF)).2.1<=_;rw[hk];omega
 exact absurd k2 (WE hl rfl h0 c1 c2 c3 k1)
theorem Cq {l:List Tok}{a:Int}(hl:l.length<=200000)(h:(bC l a).2.2.1=0):0<=a/\a<(bC l a).2.1/\(bC l a).2.1<=l.length:=by
 have LZ:(CJ (bq l a)).2.2.1=0->a<(CJ (bq l a)).2.1/\(CJ (bq l a)).2.1<=l.length:=λh=>by
  unfold CJ at h ⊢;split at h
  .rename_i he;exact absurd h he
  rename_i he;rw[aa he];exact uo (dH.1 he)
 unfold bC at h ⊢;split at h
 .cases h
 rename_i h0;rw[aa h0];refine⟨by omega,?_⟩;cases jw:at? l a with
 |none=>rw[jw]at h;exact LZ h
 |some t =>
  rw[jw]at h;have hlt:=(jh jw).2;simp only at h ⊢;cases hr:qe rp t with
  |some r=>show a<a+1/\a+1<=_;omega
  |none =>
   rw[hr]at h;simp only at h ⊢;split at h
   .rename_i hw;rw[ag hw];split at h
    .rename_i hs;rw[ag hs];obtain⟨c,hc,_⟩:=kg hs;have:=(jh hc).2;have:=G0 hl (by omega) this h;omega
    cases h
   rename_i hw;rw[aa hw];split at h
   .rename_i hs;rw[ag hs];exact G0 hl (by omega) hlt h
   rename_i hs;rw[aa hs];exact LZ h
theorem G8 {l:List Tok}{op hint:Int}(hl:l.length<=200000){m:Nat}{J:Nat->Int->List Raw->rN}{a:Int}{args:List Raw}(hn:args.length<=3)
 (ih:∀b,args.length+1<=3->∃c,LY l op hint m b (args++[CK op (bC l a).1])=some c/\J (args.length+1) b (args++[CK op (bC l a).1])=uq c):∃c,LY l op hint (m+1) a args=some c/\Ji l op hint J a args=uq c:=by
 unfold Ji;simp only;rw[ee hl,ee (show args.length+1<=2000000 by omega)];have Pu:∀X:Raw->rN,(ah (bI (bC l a).1.1 3) (ah (tj op) (X (4,(bC l a).1.2)) (X (bC l a).1)) (X (bC l a).1))=X (CK op (bC l a).1):=λX=>by
  rw[ck];unfold CK;by_cases h3:(bC l a).1.1=3
  .rw[ag h3];cases tj op with
   |true=>rw[ag ⟨h3,rfl⟩]
   |false=>rw[aa (show ¬((bC l a).1.1=3/\false=true) from λh=>by cases h.2)]
  rw[aa h3,aa (show ¬((bC l a).1.1=3/\tj op=true) from λh=>h3 h.1)]
 have hX:=Pu (λraw=>ah true (ah (bI (bC l a).2.1 l.length) (uq (op,hint,args++[raw],0,0))
  (ah (!bB (bC l a).2.1 0) (ah (!dF l (bC l a).2.1 [44]) (uq (MN 4 (bC l a).2.1)) (ah (bI ((args.length+1:Nat):Int) 4) (uq (MN 3 (bC l a).2.1))
   (J (args.length+1) (IntKind.wrap .i64 ((bC l a).2.1+1)) (args++[raw])))) none)) none)
 refine(cn (λz=>∃c,LY l op hint (m+1) a args=some c/\ah true (ah (!bI (bC l a).2.2.1 0) (uq (MN (bC l a).2.2.1 (bC l a).2.2.2)) z) none=uq c) hX).mpr ?_;unfold LY;show ∃c,_/\ah (!bI (bC l a).2.2.1 0) _ _=_;rw[cX];by_cases he:(bC l a).2.2.1=0
 .obtain ⟨q0,q1,q2⟩:=Cq hl he;rw[ag he,aa (show ¬(bC l a).2.2.1≠0 from λh=>h he)];show ∃c,_/\ah (bI (bC l a).2.1 l.length) _ _=_;rw[ck];by_cases h1:(bC l a).2.1=l.length
  .rw[ag h1,ag h1];exact⟨_,rfl,rfl⟩
  rw[aa h1,aa h1,fG (by omega),i64_in (n:=(bC l a).2.1+1) (by omega) (by omega)];show ∃c,_/\ah (!dF l (bC l a).2.1 [44]) _ _=_;cases dF l (bC l a).2.1 [44] with
  |false=>exact⟨_,rfl,rfl⟩
  |true =>
   rw[aa (show ¬true=false by decide)];show ∃c,_/\ah (bI ((args.length+1:Nat):Int) 4) _ _=_;rw[ck];by_cases h4:args.length+1=4
   .rw[ag h4,ag (by omega)];exact⟨_,rfl,rfl⟩
   rw[aa h4,aa (by omega)];exact ih _ (by omega)
 rw[aa he,ag he];exact⟨_,rfl,rfl⟩
theorem Jl {l:List Tok}{op hint:Int}(hl:l.length<=200000){r:Nat}:∀(m:Nat) (a:Int) (args:List Raw),args.length<=3->4<=args.length+m->∃c,LY l op hint m a args=some c/\Qy l op hint r m args.length a args=uq c
 |0,a,args,h1,h2=>by omega
 |m+1,a,args,h1,h2=>by
  rw[Jj];refine G8 hl h1 λb hb=>?_
  have:=Jl (op:=op) (hint:=hint) hl (r:=r) m b (args++[CK op (bC l a).1]) (by simp;omega) (by simp;omega);rw[show (args++[CK op (bC l a).1]).length=args.length+1 by simp]at this;exact this
theorem aan {l:List Tok}{op hint:Int}(hl:l.length<=200000){r:Nat}(a:Int):WC l op hint r 5 a=uq ((LY l op hint 5 a []).getD (MN 0 0)):=by
 rw[aam];obtain⟨c,h1,h2⟩:=G8 (l:=l) (op:=op) (hint:=hint) hl (m:=4) (J:=λn a args=>Qy l op hint r 4 n a args) (a:=a) (args:=[]) (by simp) λb hb=>Jl (op:=op) (hint:=hint) hl (r:=r) 4 b ([]++[CK op (bC l a).1]) (by simp) (by simp)
 rw[h1];exact h2
theorem afu {l:List Tok}{a:Int}(hl:l.length<=200000):cmT l a (λop hint b=>WC l op hint 5 5 b)=uq (ep l a):=by
 unfold cmT ep;rw[cG,cG];by_cases h0:a<0
 .rw[ag h0,ag (.inl h0)]
 rw[aa h0,fG (by omega)];by_cases h1:(l.length:Int)<a
 .rw[ag h1,ag (.inr h1)]
 rw[aa h1,aa (show ¬(a<0\/(l.length:Int)<a) by omega)];show ah (!(JN l a).2) _ _=_;cases (JN l a).2 with
 |false=>rfl
 |true =>
  rw[aa (show ¬true=false by decide)];show ah (bB (IntKind.wrap .i64 (a+1)) l.length) _ _=_;rw[i64_in (n:=a+1) (by omega) (by omega),i64_in (n:=a+1+1) (by omega) (by omega),cG,getI_at?];have go:∀hint b:Int,(if hint=0 then a+1 else a+2)=b->(ah (bI b l.length) (uq ((JN l a).1,hint,[],0,0)) (WC l (JN l a).1 hint 5 5 b))=uq (SG l (JN l a).1 hint a):=λhint b hb=>by
   unfold SG;rw[hb,ck,aan hl];split<;>rfl
  have h0:=go 0 (a+1) rfl;cases jw:at? l (a+1) with
  |none =>
   have:=jt (by omega) jw;have hh:sK l a=0:=by unfold sK;rw[jw]
   rw[aa (by omega),hh];exact h0
  |some t =>
   have hh:sK l a=(pF t).2:=by unfold sK;rw[jw]
   rw[ag (jh jw).2,hh];show ah (!bI (pF t).2 0) _ _=_;rw[cX];by_cases hw:(pF t).2=0
   .rw[ag hw,hw];exact h0
   rw[aa hw];exact go _ _ (by rw[aa hw];omega)
def gCm (args:List AV):Option (Bool×List AV) :=
 match args with
 |[L,.int .i64 a]=>match asL dJ L with
  |some l=>some (Nat.ble l.length 200000,akl (ep l a))
  |none=>none
 |_=>none
theorem OI:iB X0 gW 93 ⟨none,[none,none],gV gCm⟩ :=
 Qw rfl Cp acJ sgC λvs ws hf=>by
  unfold gCm at hf;split at hf;case h_2=>cases hf
  rename_i L a;split at hf;case h_2=>cases hf
  rename_i l hl;simp only[aq,ax]at hf;obtain⟨g0,rfl⟩:=hf;have g0:=az g0;refine⟨rfl,LX,5,?_⟩;rw[uf hl,Jk,afu g0];rfl
def NC:List rL:=(93,⟨none,[none,none],gV gCm⟩)::NQ
theorem WG:js X0 gW NC:=.cons OI acJ
end
end Go.Proofs.YtfggompceldfgaaGreatDoor.ps
