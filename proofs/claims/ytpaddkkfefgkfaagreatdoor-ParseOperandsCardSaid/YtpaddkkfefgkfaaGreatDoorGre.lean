/- Places: all terms. Places: the contract of place. Operands and instructions: the contracts of Operand and Command. -/
import Derived.Test.YtpaddkkfefgkfaaGreatDoorGrd
set_option linter.unusedVariables false
set_option linter.unusedSimpArgs false

namespace Go.Proofs.YtpaddkkfefgkfaaGreatDoor.ps
open Go.Tv Go.Ev Go.Px Go.Pp Go.Proofs.YtpaddkkfefgkfaaGreatDoor.ex
set_option maxRecDepth 100000
noncomputable section
def NO:List jo:=(165,XD fOn [none,none,none])::NS
theorem UU:eI X0 cI NO:=.cons XJ UT
def afx (l:List Tok) (op en sz:Int) (n:Nat) (s:TS) (e f:Int):aa:=Sk [.cells 197 [.bA aH l,.int .i64 op,.int .i64 en,.int .i64 s.bc,.int .i64 s.bn,.int .i64 s.ic,.int .i64 s.ix,.int .i64 s.sc,.int .i64 0,.int .i64 sz,.own 1 n,.own 2 0,.int .i64 e,.int .i64 f],.list 106 aH s.put 0 false false,.list 50 bW [] 0 false false]
def pAl:List Bool:=[true,true,true,false]
def XK:bG:=⟨cG [0,3,4] pAl,.none,[]⟩
def XL (l:List Tok) (op en sz:Int) (r m:Nat) (sg:List UInt8) (a:Int) (s:TS) (e f:Int) (n:Nat):bD:=cK X0 (cN P2 NO _) XK r 135 pAl (Lm [none]) m (fY 60 [(0,.ptr 0 0),(3,.int .i64 a),(4,.str sg)]) (afx l op en sz n s e f)
def stB (l:List Tok) (en a:Int):Bool:=Nat.ble l.length 1000000 && !ltI a 1 && !ltI en a && !ltI l.length en
def onB (l:List Tok) (en a b:Int) (s:TS):Bool:=Nat.ble l.length 200000 && !ltI a 0 && !ltI b a && !ltI en b&&ltI en l.length && !ltI (4*a) s.put.length
def HV (l:List Tok) (op en sz:Int) (J:List UInt8->Int->TS->Int->Int->Nat->bD) (sg:List UInt8) (a:Int) (s:TS) (e f:Int):bD :=
 pick2 (stB l en a&&(eqI e 0&&eqI f 0)&&true) (pick2 (onB l en a (bx l a en) s&&true&&true)
  (pick2 (!(dR rp l sg a (bx l a en) s).1) (lf (.bool false) l op en sz (dR rp l sg a (bx l a en) s).2.2.2 (dR rp l sg a (bx l a en) s).2.1 (dR rp l sg a (bx l a en) s).2.2.1 (dR rp l sg a (bx l a en) s).2.2.2.put.length)
   (pick2 (eqI (bx l a en) en) (lf (.bool true) l op en sz (dR rp l sg a (bx l a en) s).2.2.2 (dR rp l sg a (bx l a en) s).2.1 (dR rp l sg a (bx l a en) s).2.2.1 (dR rp l sg a (bx l a en) s).2.2.2.put.length)
    (Option.rec (motive:=λ_=>bD) none (λy=>J y.2.2.1 (IntKind.wrap .i64 (bx l a en+1)) (dR rp l sg a (bx l a en) s).2.2.2 (dR rp l sg a (bx l a en) s).2.1 (dR rp l sg a (bx l a en) s).2.2.1 (dR rp l sg a (bx l a en) s).2.2.2.put.length) (aS l (bx l a en))))) none) none
theorem XM (l:List Tok) (op en sz:Int) (r m:Nat) (sg:List UInt8) (a:Int) (bc bn ic ix sc:Int) (put:List Tok) (e f:Int) (n:Nat):XL l op en sz r (m+1) sg a ⟨bc,bn,ic,ix,sc,put⟩ e f n=HV l op en sz (XL l op en sz r m) sg a ⟨bc,bn,ic,ix,sc,put⟩ e f:=by kernel_rfl
def Pq (l:List Tok) (op:Int) (J:List UInt8->Int->bD):bD :=
 (λyes:bD=>pick2 (!ltI (IntKind.wrap .i64 (op+1)) 0) (pick2 (aN l (IntKind.wrap .i64 (op+1)) [43]) yes (pick2 (!ltI (IntKind.wrap .i64 (op+1)) 0) (pick2 (aN l (IntKind.wrap .i64 (op+1)) [45]) yes (J [43] (IntKind.wrap .i64 (op+1)))) none)) none)
  (Option.rec (motive:=λ_=>bD) none (λy=>J y.2.2.1 (IntKind.wrap .i64 (IntKind.wrap .i64 (op+1)+1))) (aS l (IntKind.wrap .i64 (op+1))))
theorem SZ (l:List Tok) (op en sz:Int) (r:Nat) (bc bn ic ix sc:Int) (put:List Tok):ag X0 (cN P2 NO _) XK r 135 [.ptr 0 0] (eH 197 14 (vD l op en sz ⟨bc,bn,ic,ix,sc,put⟩ 0 0++[])) (Lm [none])=Pq l op (λsg a=>XL l op en sz r r sg a ⟨bc,bn,ic,ix,sc,put⟩ 0 0 put.length):=by kernel_rfl
theorem ug (e:Int):∀(r:List Tok) (p:Tok) (a d:Int),a+r.length=e->a<=cP e p r a d/\cP e p r a d<=e
 |
  [],p,a,d,h=>by
  have h:a+0=e:=h;unfold cP;omega
 |
  t::r,p,a,d,h=>by
  have hl:(a+1)+r.length=e:=by simp at h;omega
  unfold cP;have i1:=ug e r t (a+1) (d+1) hl;have i2:=ug e r t (a+1) (if 0<d-1 then d-1 else 0) hl;have i3:=ug e r t (a+1) d hl;split
  .
   omega
  split
  .
   omega
  split<;>omega
theorem zn {l:List Tok} {a e:Int} (h0:0<=a) (h1:a<=e) (h2:e<=l.length):a<=bx l a e/\bx l a e<=e:=by
 unfold bx
 exact ug e _ _ _ _ (by rw[List.length_drop,List.length_take];omega)
theorem S3 {l:List Tok} {sg:List UInt8} {a b:Int} {s:TS} (h:(dR rp l sg a b s).1=true):(dR rp l sg a b s).2.1=0/\(dR rp l sg a b s).2.2.1=0:=by
 have key:∀o:js,(∃s e f,o=ee s e f)\/(∃s,o=okO s)->o.1=true->o.2.1=0/\o.2.2.1=0:=λo ho h=>by
  rcases ho with ⟨s,e,f,rfl⟩|⟨s,rfl⟩
  .
   cases h
  exact ⟨rfl,rfl⟩
 have hal:∀r,(∃s' e f,fH sg r a s=ee s' e f)\/(∃s',fH sg r a s=okO s'):=λr=>by
  unfold fH;split
  .
   exact .inl ⟨_,_,_,rfl⟩
  split
  .
   exact .inr ⟨_,rfl⟩
  split
  .
   exact .inr ⟨_,rfl⟩
  exact .inl ⟨_,_,_,rfl⟩
 have hsc:∀r num n,(∃s' e f,dB sg r a num n s=ee s' e f)\/(∃s',dB sg r a num n s=okO s'):=λr num n=>by
  unfold dB;split
  .
   exact .inl ⟨_,_,_,rfl⟩
  split
  .
   exact .inr ⟨_,rfl⟩
  exact .inl ⟨_,_,_,rfl⟩
 refine key _ ?_ h
 unfold dR
 split
 .
  exact .inl ⟨_,_,_,rfl⟩
 split
 .
  split
  .
   split
   .
    exact hal _
   split
   .
    exact hal _
   exact .inr ⟨_,rfl⟩
  exact .inl ⟨_,_,_,rfl⟩
 split
 .
  split
  .
   split
   .
    split
    .
     exact hsc _ _ _
    split
    .
     exact hsc _ _ _
    exact .inr ⟨_,rfl⟩
   .
    split
    .
     exact hsc _ _ _
    exact .inr ⟨_,rfl⟩
   .
    split
    .
     exact hsc _ _ _
    exact .inr ⟨_,rfl⟩
   exact .inr ⟨_,rfl⟩
  exact .inl ⟨_,_,_,rfl⟩
 exact .inr ⟨_,rfl⟩
theorem FC {l:List Tok} {sg:List UInt8} {a b:Int} {s:TS} (h0:0<=a) (hab:a<=b):((dR rp l sg a b s).2.2.2.put.length:Int)<=s.put.length+3+(b-a):=by
 have hal:∀r,((fH sg r a s).2.2.2.put.length:Int)<=s.put.length+3+(b-a):=λr=>by
  have:(fH sg r a s).2.2.2.put=s.put:=by
   unfold fH;split
   .
    rfl
   split
   .
    rfl
   split<;>rfl
  rw[this];omega
 have hsc:∀r num n,((dB sg r a num n s).2.2.2.put.length:Int)<=s.put.length+3+(b-a):=λr num n=>by
  have:(dB sg r a num n s).2.2.2.put=s.put:=by
   unfold dB;split
   .
    rfl
   split<;>rfl
  rw[this];omega
 have Zq:((iP l sg a b s).2.2.2.put.length:Int)<=s.put.length+3+(b-a):=by
  have hc:(zi l a b).length<=(b-a).toNat:=by unfold zi;rw[List.length_take];omega
  unfold iP okO;simp only[List.length_append,List.length_cons,List.length_nil];split
  .
   simp only[List.length_append,List.length_cons,List.length_nil];omega
  omega
 have hf:∀e f,((ee s e f).2.2.2.put.length:Int)<=s.put.length+3+(b-a):=λe f=>by show (s.put.length:Int)<=_;omega
 unfold dR
 split
 .
  exact hf _ _
 split
 .
  split
  .
   split
   .
    exact hal _
   split
   .
    exact hal _
   exact Zq
  exact hf _ _
 split
 .
  split
  .
   split
   .
    split
    .
     exact hsc _ _ _
    split
    .
     exact hsc _ _ _
    exact Zq
   .
    split
    .
     exact hsc _ _ _
    exact Zq
   .
    split
    .
     exact hsc _ _ _
    exact Zq
   exact Zq
  exact hf _ _
 exact Zq
theorem Dn {l:List Tok} {op en sz:Int} {r:Nat} (hl:l.length<=200000) (hel:en<l.length):∀(m:Nat) (sg:List UInt8) (a:Int) (s:TS),1<=a->a<=en->(s.put.length:Int)<=4*a->en-a<m ->
 ∃o,gw rp l en m sg a s=some o/\XL l op en sz r m sg a s 0 0 s.put.length=Zp l op en sz o
 |0,sg,a,s,h1,h2,h3,h4=>by omega
 |
  m+1,sg,a,s,h1,h2,h3,h4=>by
  obtain ⟨b1,b2⟩:=zn (l:=l) (a:=a) (e:=en) (by omega) h2 (by omega)
  have hst:stB l en a=true:=by
   unfold stB;rw[fG (by omega),cA h1,cA h2,cA (show en<=(l.length:Int) by omega)];rfl
  have hon:onB l en a (bx l a en) s=true:=by
   unfold onB;rw[fG hl,cA (show 0<=a by omega),cA b1,cA b2,kG hel,cA h3];rfl
  have hstep:=XM l op en sz r m sg a s.bc s.bn s.ic s.ix s.sc s.put 0 0 s.put.length;have hstep:XL l op en sz r (m+1) sg a s 0 0 s.put.length=HV l op en sz (XL l op en sz r m) sg a s 0 0:=hstep;rw[hstep];unfold HV;rw[hst,hon]
  have hgo:gw rp l en (m+1) sg a s=match dR rp l sg a (bx l a en) s with
   |
    (true,_,_,s')=>if bx l a en=en then some (okO s') else match at? l (bx l a en) with
    |some t=>gw rp l en m t.2.2.1 (bx l a en+1) s'
    |none=>none
   |(false,x,f,s')=>some (ee s' x f):=rfl
  rw[hgo];have hok:=S3 (l:=l) (sg:=sg) (a:=a) (b:=bx l a en) (s:=s);have hput:=FC (l:=l) (sg:=sg) (a:=a) (b:=bx l a en) (s:=s) (by omega) b1
  generalize hO:dR rp l sg a (bx l a en) s=o at hok hput;obtain ⟨ob,oe,of,os⟩:=o;cases ob with
  |false=>exact ⟨_,rfl,rfl⟩
  |
   true =>
   obtain ⟨rfl,rfl⟩:=hok rfl;simp only at hput ⊢;show ∃o,_/\pick2 (eqI (bx l a en) en) _ _=_;rw[az];by_cases hb:bx l a en=en
   .
    rw[if_pos hb,if_pos hb];exact ⟨_,rfl,rfl⟩
   rw[if_neg hb,if_neg hb,getI_at?]
   obtain ⟨t,ht⟩:∃t,at? l (bx l a en)=some t:=by
    cases dJ:at? l (bx l a en) with
    |some t=>exact ⟨t,rfl⟩
    |none=>have:=iQ (by omega) dJ;omega
   rw[ht];simp only;rw[i64_in (n:=bx l a en+1) (by omega) (by omega)]
   exact Dn hl hel m t.2.2.1 (bx l a en+1) os (by omega) (by omega) (by omega) (by omega)
def fI (l:List Tok) (op en:Int) (s:TS):js :=
 (if aN l (op+1) [43]=true\/aN l (op+1) [45]=true then gw rp l en (l.length+1) ((at? l (op+1)).getD zh).2.2.1 (op+2) s
  else gw rp l en (l.length+1) [43] (op+1) s).getD (ee s 0 0)
def fAl:XC:=λl op en s args=>match args with
 |[]=>some (Nat.ble l.length 200000 && !ltI op 0 && !ltI en (op+1)&&ltI en l.length&&s.put.isEmpty&&aN l en [93],((fI l op en s).2.1,(fI l op en s).2.2.1,(fI l op en s).2.2.2),[.val (.bool (fI l op en s).1)])
 |_=>none
theorem gO {l:List Tok} {a:Int} {t:List UInt8} (h:aN l a t=true):∃c,at? l a=some c/\dO c t=true:=by
 unfold aN at h
 split at h
 .
  rename_i c hc;exact ⟨c,hc,h⟩
 cases h
theorem Dp {c:Tok} {s t:List UInt8} (h:dO c s=true) (hne:s≠t):dO c t=false:=by
 unfold dO at h ⊢
 simp only[Bool.and_eq_true,decide_eq_true_eq] at h
 rw[decide_eq_true h.1,h.2,decide_eq_false hne];rfl
theorem XN:dX X0 cI 135 (XD fAl []) :=
 HR rfl p5 UU (pZ:=[none]) λl op en sz s args q rs hF hal=>by
  unfold fAl at hF;split at hF
  case h_2=>cases hF
  simp only[Option.some.injEq,Prod.mk.injEq,Bool.and_eq_true,Bool.not_eq_true'] at hF;obtain ⟨⟨⟨⟨⟨⟨g0,g1⟩,g2⟩,g3⟩,g4⟩,g5⟩,rfl,rfl⟩:=hF;have g0:=Nat.le_of_ble_eq_true g0;have g1:=Am g1;have g2:=Am g2;have g3:en<l.length:=by rw[ltI_spec] at g3;simpa using g3
  have g4:s.put=[]:=List.isEmpty_iff.1 g4;refine ⟨[],[.bool (fI l op en s).1],XK,l.length+1,rfl,rfl,?_⟩;have h1:=SZ l op en sz (l.length+1) s.bc s.bn s.ic s.ix s.sc s.put;refine h1.trans ?_;unfold Pq;simp only;rw[i64_in (n:=op+1) (by omega) (by omega),cA (show (0:Int)<=op+1 by omega),i64_in (n:=op+1+1) (by omega) (by omega),getI_at?]
  obtain ⟨c,hc⟩:∃c,at? l (op+1)=some c:=by
   cases dJ:at? l (op+1) with
   |some t=>exact ⟨t,rfl⟩
   |none=>have:=iQ (by omega) dJ;omega
  have go:∀(sg:List UInt8) (a:Int),op+1<=a->a<=en->fI l op en s=((gw rp l en (l.length+1) sg a s).getD (ee s 0 0))->XL l op en sz (l.length+1) (l.length+1) sg a s 0 0 s.put.length=some (vD l op en sz (fI l op en s).2.2.2 (fI l op en s).2.1 (fI l op en s).2.2.1++[AV.bool (fI l op en s).1].map bI.val,[(fI l op en s).2.2.2.put.length,0]):=λsg a h1 h2 h3=>by
   obtain ⟨o,e1,e2⟩:=Dn (l:=l) (op:=op) (en:=en) (sz:=sz) (r:=l.length+1) g0 g3 (l.length+1) sg a s (by omega) h2 (by rw[g4];show (0:Int)<=_;omega) (by omega)
   rw[e2,h3,e1];rfl
  obtain ⟨ce,hce,Ur⟩:=gO g5
  have hne:(aN l (op+1) [43]=true\/aN l (op+1) [45]=true)->op+2<=en:=λh=>by
   by_cases he:en=op+1
   .
    exfalso;rw[he] at hce;rcases h with h|h<;>(obtain ⟨c2,k1,k2⟩:=gO h;rw[hce] at k1;cases k1;rw[Dp Ur (by decide)] at k2;cases k2)
   omega
  rw[hc];by_cases hs:aN l (op+1) [43]=true\/aN l (op+1) [45]=true
  .
   have hy:=go c.2.2.1 (op+1+1) (by omega) (by have:=hne hs;omega) (by unfold fI;rw[if_pos hs,hc,show op+1+1=op+2 by omega];rfl)
   cases h43:aN l (op+1) [43] with
   |true=>exact hy
   |
    false =>
    cases h45:aN l (op+1) [45] with
    |true=>exact hy
    |false=>rw[h43,h45] at hs;simp at hs
  have hn:=go [43] (op+1) (by omega) (by omega) (by unfold fI;rw[if_neg hs])
  simp only[not_or,Bool.not_eq_true] at hs;rw[hs.1,hs.2];exact hn
def NA:List jo:=(135,XD fAl [])::NO
theorem UW:eI X0 cI NA:=.cons XN UU
end
end Go.Proofs.YtpaddkkfefgkfaaGreatDoor.ps

namespace Go.Proofs.YtpaddkkfefgkfaaGreatDoor.ps
open Go.Tv Go.Ev Go.Px Go.Pp Go.Proofs.YtpaddkkfefgkfaaGreatDoor.ex
set_option maxRecDepth 100000
noncomputable section
abbrev Pr:=Raw×Int×Int×Int
abbrev jX:Tv.Ty:=.pair (.int .i64) (.pair (.pair (.int .i64) (.int .i64)) (.pair (.pair (.pair (.int .i64) (.int .i64)) (.pair (.pair (.int .i64) (.int .i64)) (.pair (.int .i64) (.pair (.int .i64) (.int .i64))))) (.pair (.sl bW) .bool)))
def wO:Raw:=(0,(0,0),((0,0),(0,0),0,0,0),[],false)
def bS (e f:Int):Pr:=(wO,0,e,f)
def XO (r:Raw):List AV:=[.int .i64 r.1,.int .i64 r.2.1.1,.int .i64 r.2.1.2,.int .i64 r.2.2.1.1.1,.int .i64 r.2.2.1.1.2,.int .i64 r.2.2.1.2.1.1,.int .i64 r.2.2.1.2.1.2,.int .i64 r.2.2.1.2.2.1,.int .i64 r.2.2.1.2.2.2.1,.int .i64 r.2.2.1.2.2.2.2,.bA bW r.2.2.2.1,.bool r.2.2.2.2]
def qL (r:Pr):List AV:=[.agg (XO r.1),.int .i64 r.2.1,.agg [.int .i64 r.2.2.1,.int .i64 r.2.2.2]]
abbrev kC:=Option (List AV)
def iR (r:Pr):kC:=some (qL r)
def sgR:List (List (Option Tv.Ty)):=[[none,none,none,none,none,none,none,none,none,none,some bW,none],[none],[none,none]]
def abT (p:List Nd×Int×Int×Int) (sz:Int):Pr:=((2,(0,0),((8,0),(0,0),0,0,sz),p.1,true),p.2.1+1,0,0)
def Pt (s:TS) (sz en:Int) (x:List Nd):Pr:=((2,(0,0),((s.bc,s.bn),(s.ic,s.ix),s.sc,0,sz),x,false),en+1,0,0)
def FD:TS:=⟨0,0,0,0,0,[]⟩
def sv (l:List Tok) (op en sz:Int) (o:js):Pr :=
 if o.1=false then bS o.2.1 o.2.2.1
 else if o.2.2.2.put=[] then (if ud o.2.2.2.bc o.2.2.2.bn o.2.2.2.ic o.2.2.2.ix o.2.2.2.sc 0 sz=0 then Pt o.2.2.2 sz en [] else bS 2 op)
 else if (ak o.2.2.2.put 0).2.2.1≠0 then bS (ak o.2.2.2.put 0).2.2.1 op
 else if (ak o.2.2.2.put 0).2.1<o.2.2.2.put.length then bS 4 op
 else if ud o.2.2.2.bc o.2.2.2.bn o.2.2.2.ic o.2.2.2.ix o.2.2.2.sc 0 sz=0 then Pt o.2.2.2 sz en (ak o.2.2.2.put 0).1 else bS 2 op
def eY (l:List Tok) (op sz:Int):Pr :=
 if dY ((at? l (op+1)).getD zh) [114,101,108]=true then
  if (ak l (op+2)).2.2.1≠0 then bS (ak l (op+2)).2.2.1 (ak l (op+2)).2.2.2
  else if aN l (ak l (op+2)).2.1 [93]=true then abT (ak l (op+2)) sz else bS 4 (ak l (op+2)).2.1
 else match dA l (op+1) with
  |none=>bS 4 l.length
  |some en=>sv l op en sz (fI l op en FD)
def flP (o:js) (e op:Int):kC:=pick2 (eqI o.2.1 0) (iR (bS e op)) (iR (bS o.2.1 o.2.2.1))
def ckP (l:List Tok) (op en sz:Int) (o:js) (x:List Nd):kC :=
 pick2 (!eqI (ud o.2.2.2.bc o.2.2.2.bn o.2.2.2.ic o.2.2.2.ix o.2.2.2.sc 0 sz) 0) (flP o 2 op) (iR ((2,(0,0),((o.2.2.2.bc,o.2.2.2.bn),(o.2.2.2.ic,o.2.2.2.ix),o.2.2.2.sc,0,sz),x,false),IntKind.wrap .i64 (en+1),0,0))
def za (l:List Tok) (op en sz:Int) (o:js):kC :=
 pick2 (!o.1) (iR (bS o.2.1 o.2.2.1)) (pick2 (eqI o.2.2.2.put.length 0) (ckP l op en sz o [])
  (pick2 (Nat.ble o.2.2.2.put.length 1000000) (pick2 (!eqI (ak o.2.2.2.put 0).2.2.1 0) (flP o (ak o.2.2.2.put 0).2.2.1 op)
   (pick2 (ltI (ak o.2.2.2.put 0).2.1 o.2.2.2.put.length) (flP o 4 op) (ckP l op en sz o (ak o.2.2.2.put 0).1))) none))
def alB (l:List Tok) (op en:Int):Bool:=Nat.ble l.length 200000 && !ltI op 0 && !ltI en (op+1)&&ltI en l.length&&true&&aN l en [93]
def plT (l:List Tok) (op sz:Int):kC :=
 (λrel cl:kC=>pick2 (ltI (IntKind.wrap .i64 (op+1)) l.length) (Option.rec (motive:=λ_=>kC) none (λy=>pick2 (dY y [114,101,108]) rel cl) (aS l (IntKind.wrap .i64 (op+1)))) cl)
  (pick2 (Nat.ble l.length 1000000) (pick2 (!eqI (ak l (IntKind.wrap .i64 (op+2))).2.2.1 0) (iR (bS (ak l (IntKind.wrap .i64 (op+2))).2.2.1 (ak l (IntKind.wrap .i64 (op+2))).2.2.2))
   (pick2 (!ltI (ak l (IntKind.wrap .i64 (op+2))).2.1 0) (pick2 (!aN l (ak l (IntKind.wrap .i64 (op+2))).2.1 [93]) (iR (bS 4 (ak l (IntKind.wrap .i64 (op+2))).2.1))
    (iR ((2,(0,0),((8,0),(0,0),0,0,sz),(ak l (IntKind.wrap .i64 (op+2))).1,true),IntKind.wrap .i64 ((ak l (IntKind.wrap .i64 (op+2))).2.1+1),0,0))) none)) none)
  (pick2 (Nat.ble l.length 1000000 && !ltI (IntKind.wrap .i64 (op+1)) 0 && !ltI l.length (IntKind.wrap .i64 (op+1))) (pick2 (!(dA l (IntKind.wrap .i64 (op+1))).isSome) (iR (bS 4 l.length))
   (pick2 (alB l op ((dA l (IntKind.wrap .i64 (op+1))).getD 0)&&true&&true) (za l op ((dA l (IntKind.wrap .i64 (op+1))).getD 0) sz (fI l op ((dA l (IntKind.wrap .i64 (op+1))).getD 0) FD)) none)) none)
theorem S4 (l:List Tok) (op sz:Int):ag X0 (cN P2 NA _) bK 5 92 [.bA aH l,.int .i64 op,.int .i64 sz] aa.empty (pX sgR)=plT l op sz:=by kernel_rfl
theorem BV {e:Int}:∀(r:List Tok) (a d:Int),dK r a d=some e->a<=e/\e<a+r.length/\∃c,at? r (e-a)=some c/\dO c [93]=true
 |[],a,d,h=>by cases h
 |
  t::r,a,d,h=>by
  have step:∀d',dK r (a+1) d'=some e->a<=e/\e<a+(t::r).length/\∃c,at? (t::r) (e-a)=some c/\dO c [93]=true:=λd' h=>by
   obtain ⟨h1,h2,c,h3,h4⟩:=BV r (a+1) d' h;refine ⟨by omega,by simp;omega,c,?_,h4⟩
   obtain ⟨k,hk⟩:∃k:Nat,e-(a+1)=k:=⟨(e-(a+1)).toNat,by omega⟩
   rw[show e-a=((k+1:Nat):Int) by omega]
   rw[hk] at h3;exact h3
  unfold dK at h;split at h
  .
   exact step _ h
  split at h
  .
   exact step _ h
  split at h
  .
   rename_i hc;cases h;refine ⟨Int.le_refl _,by simp;omega,t,?_,hc.2⟩
   rw[Int.sub_self];rfl
  exact step _ h
theorem BW {l:List Tok} {a e:Int} (h0:0<=a) (h1:a<=l.length) (h:dA l a=some e):a<=e/\e<l.length/\aN l e [93]=true:=by
 obtain ⟨k1,k2,c,k3,k4⟩:=BV _ _ _ h
 rw[List.length_drop] at k2
 refine ⟨k1,by omega,?_⟩
 have:at? l e=some c:=by
  obtain ⟨n,hn⟩:∃n:Nat,e-a=n:=⟨(e-a).toNat,by omega⟩
  rw[hn] at k3;have k3:(l.drop a.toNat)[n]? = some c:=k3;rw[List.getElem?_drop] at k3;rw[show e=((a.toNat+n:Nat):Int) by omega]
  exact k3
 unfold aN
 rw[this];exact k4
theorem vF {l:List Tok} {a:Int} (h:(ak l a).2.2.1=0):a<(ak l a).2.1/\(ak l a).2.1<=l.length:=by
 obtain ⟨⟨y,e,f,g⟩,hr⟩:=sr (nm:=ay) l a
 have e1:ak l a=(y,e,f,g):=by unfold ak;rw[hr];rfl
 rw[e1] at h ⊢
 exact ((tW hr).2 h).2
theorem Dq {l:List Tok} {en:Int}:∀(m:Nat) (sg:List UInt8) (a:Int) (s:TS) (o:js),gw rp l en m sg a s=some o->o.1=true->o.2.1=0/\o.2.2.1=0
 |0,_,_,_,_,h,_=>by cases h
 |
  m+1,sg,a,s,o,h,ho=>by
  unfold Pp.gw at h;split at h
  .
   split at h
   .
    cases h;exact ⟨rfl,rfl⟩
   split at h
   .
    exact Dq m _ _ _ o h ho
   cases h
  cases h;cases ho
theorem JF {l:List Tok} {op en:Int} {s:TS} (h:(fI l op en s).1=true):(fI l op en s).2.1=0/\(fI l op en s).2.2.1=0:=by
 have key:∀r:Option js,(∀o,r=some o->o.1=true->o.2.1=0/\o.2.2.1=0)->(r.getD (ee s 0 0)).1=true->(r.getD (ee s 0 0)).2.1=0/\(r.getD (ee s 0 0)).2.2.1=0:=λr h1 h2=>by
  cases r with
  |none=>cases h2
  |some o=>exact h1 o rfl h2
 unfold fI at h ⊢
 refine key _ (λo ho=>?_) h
 split at ho
 .
  exact Dq _ _ _ _ o ho
 exact Dq _ _ _ _ o ho
theorem zo {l:List Tok} {en:Int} (hel:en<l.length):∀(m:Nat) (sg:List UInt8) (a:Int) (s:TS) (o:js),0<=a->a<=en->(s.put.length:Int)<=4*a->gw rp l en m sg a s=some o->(o.2.2.2.put.length:Int)<=4*en+4
 |0,_,_,_,_,_,_,_,h=>by cases h
 |
  m+1,sg,a,s,o,h0,h1,h2,h=>by
  obtain ⟨b1,b2⟩:=zn (l:=l) (a:=a) (e:=en) h0 h1 (by omega)
  have hput:=FC (l:=l) (sg:=sg) (a:=a) (b:=bx l a en) (s:=s) h0 b1;unfold Pp.gw at h;split at h
  .
   rename_i s' hs;rw[hs] at hput;simp only at hput;split at h
   .
    cases h;show (s'.put.length:Int)<=_;omega
   split at h
   .
    exact zo hel m _ _ _ o (by omega) (by omega) (by omega) h
   cases h
  rename_i x f s' hs;rw[hs] at hput;cases h;show (s'.put.length:Int)<=_;simp only at hput;omega
theorem Pu {l:List Tok} {op en:Int} {s:TS} (h0:0<=op) (h1:op+1<=en) (h2:en<l.length) (hs:s.put=[]) (hc:aN l en [93]=true):((fI l op en s).2.2.2.put.length:Int)<=4*en+4:=by
 obtain ⟨ce,hce,Ur⟩:=gO hc
 have key:∀r:Option js,(∀o,r=some o->(o.2.2.2.put.length:Int)<=4*en+4)->((r.getD (ee s 0 0)).2.2.2.put.length:Int)<=4*en+4:=λr h=>by
  cases r with
  |none=>show (s.put.length:Int)<=_;rw[hs];show (0:Int)<=_;omega
  |some o=>exact h o rfl
 unfold fI
 refine key _ λo ho=>?_
 split at ho
 .
  rename_i DH
  have:op+2<=en:=by
   by_cases he:en=op+1
   .
    exfalso;rw[he] at hce;rcases DH with h|h<;>(obtain ⟨c2,k1,k2⟩:=gO h;rw[hce] at k1;cases k1;rw[Dp Ur (by decide)] at k2;cases k2)
   omega
  exact zo h2 _ _ _ _ o (by omega) this (by rw[hs];show (0:Int)<=_;omega) ho
 exact zo h2 _ _ _ _ o (by omega) h1 (by rw[hs];show (0:Int)<=_;omega) ho
theorem S5 {l:List Tok} {op en sz:Int} {o:js} (hok:o.1=true->o.2.1=0/\o.2.2.1=0) (hp:o.2.2.2.put.length<=1000000) (he:0<=en) (he2:en<=1000000):za l op en sz o=iR (sv l op en sz o):=by
 unfold za sv
 cases ho:o.1 with
 |false=>rfl
 |
  true =>
  obtain ⟨h1,h2⟩:=hok ho;have hfl:∀e,flP o e op=iR (bS e op):=λe=>by unfold flP;rw[h1];rfl
  have hck:∀x,ckP l op en sz o x=iR (if ud o.2.2.2.bc o.2.2.2.bn o.2.2.2.ic o.2.2.2.ix o.2.2.2.sc 0 sz=0 then Pt o.2.2.2 sz en x else bS 2 op):=λx=>by
   unfold ckP;rw[aT,hfl,i64_in (n:=en+1) (by omega) (by omega)]
   split<;>rfl
  show pick2 (eqI o.2.2.2.put.length 0) _ _=_;rw[hck,hck,hfl,hfl,az,aT,aX,fG hp,if_neg (show ¬true=false by decide)]
  by_cases hz:o.2.2.2.put=[]
  .
   rw[if_pos (by rw[hz];rfl),if_pos hz]
  rw[if_neg (by have:0<o.2.2.2.put.length:=List.length_pos_iff.2 hz;omega),if_neg hz]
  show ite _ _ _=_;by_cases h3:(ak o.2.2.2.put 0).2.2.1=0
  .
   rw[if_pos h3,if_neg (show ¬(ak o.2.2.2.put 0).2.2.1≠0 from λh=>h h3)]
   split<;>rfl
  rw[if_neg h3,if_pos h3]
theorem XP {l:List Tok} {op sz:Int} (hl:l.length<=200000) (h0:0<=op) (h1:op<l.length):plT l op sz=iR (eY l op sz):=by
 unfold plT eY
 simp only
 rw[i64_in (n:=op+1) (by omega) (by omega),i64_in (n:=op+2) (by omega) (by omega),fG (show l.length<=1000000 by omega),cA (show (0:Int)<=op+1 by omega),cA (show op+1<=(l.length:Int) by omega)]
 have gF:pick2 (true && !false && !false) (pick2 (!(dA l (op+1)).isSome) (iR (bS 4 l.length))
  (pick2 (alB l op ((dA l (op+1)).getD 0)&&true&&true) (za l op ((dA l (op+1)).getD 0) sz (fI l op ((dA l (op+1)).getD 0) FD)) none)) none=iR (match dA l (op+1) with
  |none=>bS 4 l.length
  |some en=>sv l op en sz (fI l op en FD)):=by
  cases hc:dA l (op+1) with
  |none=>rfl
  |
   some en =>
   obtain ⟨c1,c2,c3⟩:=BW (by omega) (by omega) hc
   have hal:alB l op en=true:=by
    unfold alB;rw[fG hl,cA h0,cA (show op+1<=en by omega),kG c2,c3];rfl
   show pick2 (alB l op en&&true&&true) _ _=_;rw[hal];show za l op en sz (fI l op en FD)=_;exact S5 JF (by have:=Pu (s:=FD) h0 c1 c2 rfl c3;omega) (by omega) (by omega)
 rw[gF]
 have hrel:pick2 true (pick2 (!eqI (ak l (op+2)).2.2.1 0) (iR (bS (ak l (op+2)).2.2.1 (ak l (op+2)).2.2.2))
  (pick2 (!ltI (ak l (op+2)).2.1 0) (pick2 (!aN l (ak l (op+2)).2.1 [93]) (iR (bS 4 (ak l (op+2)).2.1))
   (iR ((2,(0,0),((8,0),(0,0),0,0,sz),(ak l (op+2)).1,true),IntKind.wrap .i64 ((ak l (op+2)).2.1+1),0,0))) none)) none=iR (if (ak l (op+2)).2.2.1≠0 then bS (ak l (op+2)).2.2.1 (ak l (op+2)).2.2.2
  else if aN l (ak l (op+2)).2.1 [93]=true then abT (ak l (op+2)) sz else bS 4 (ak l (op+2)).2.1):=by
  show pick2 (!eqI (ak l (op+2)).2.2.1 0) _ _=_;rw[aT];by_cases h3:(ak l (op+2)).2.2.1=0
  .
   obtain ⟨q1,q2⟩:=vF h3;rw[if_pos h3,if_neg (show ¬(ak l (op+2)).2.2.1≠0 from λh=>h h3),cA (by omega),i64_in (n:=(ak l (op+2)).2.1+1) (by omega) (by omega)]
   cases aN l (ak l (op+2)).2.1 [93]<;>rfl
  rw[if_neg h3,if_pos h3]
 rw[hrel,getI_at?,aX]
 cases dJ:at? l (op+1) with
 |
  none =>
  have:=iQ (by omega) dJ
  rw[if_neg (by omega)];rfl
 |
  some y =>
  rw[if_pos (gM dJ).2];show pick2 (dY y [114,101,108]) _ _=iR (if dY y [114,101,108]=true then _ else _);cases dY y [114,101,108]<;>rfl
def gV (f:List AV->Option (Bool×List AV)) (ins:List bI):Option (Bool×List bI×List bI) :=
 match Dr ins with
 |
  some vs=>match f vs with
  |some (c,ws)=>some (c,[],ws.map .val)
  |none=>none
 |none=>none
where Dr:List bI->Option (List AV)
 |[]=>some []
 |
  .val v::l=>match Dr l with
  |some vs=>some (v::vs)
  |none=>none
 |.list _ _ _::_=>none
theorem p6:∀{ins:List bI} {vs:List AV},gV.Dr ins=some vs->ins=vs.map .val
 |[],vs,h=>by cases h;rfl
 |
  .val v::l,vs,h=>by
  unfold gV.Dr at h;split at h
  .
   rename_i vs' h1;cases h;rw[p6 h1];rfl
  cases h
 |.list _ _ _::_,_,h=>by cases h
theorem sw:∀(l:List AV) (M:aa),aJ M (l.map .val)=M
 |[],_=>rfl
 |_::l,M=>sw l M
theorem JG {id:FuncId} (hk:lt.inl id=true) {M:List kH} {N:List jo} (hM:cg X0 cI M) (hN:eI X0 cI N) {sig:List (Option (TypeId×Tv.Ty))} {f:List AV->Option (Bool×List AV)} (sg:List (List (Option Tv.Ty)))
 (h:∀vs ws,f vs=some (true,ws)->ws.all Ak=true/\∃an rounds,ag X0 (cN M N _) an rounds id vs aa.empty (pX sg)=some ws):dX X0 cI id ⟨none,sig,gV f⟩ :=
 Pe (nk hk) (bR hM hN) sg λins outs rs hg=>by
  unfold gV at hg;split at hg
  case h_2=>cases hg
  rename_i vs hv;split at hg
  case h_2=>cases hg
  rename_i c ws hf;simp only[Option.some.injEq,Prod.mk.injEq] at hg;obtain ⟨rfl,_,rfl⟩:=hg;obtain ⟨h1,an,rounds,h2⟩:=h vs ws hf;have hi:=p6 hv;subst hi;refine ⟨an,rounds,ws,?_,rfl,h1⟩;rw[nU,sw];exact h2
def fPl (args:List AV):Option (Bool×List AV) :=
 match args with
 |
  [L,.int .i64 op,.int .i64 sz]=>match xh aH L with
  |some l=>some (Nat.ble l.length 200000 && !ltI op 0&&ltI op l.length,qL (eY l op sz))
  |none=>none
 |_=>none
theorem JH (r:Pr):(qL r).all Ak=true:=rfl
theorem XQ:dX X0 cI 92 ⟨none,[none,none,none],gV fPl⟩ :=
 JG rfl p5 UW sgR λvs ws hf=>by
  unfold fPl at hf;split at hf
  case h_2=>cases hf
  rename_i L op sz;split at hf
  case h_2=>cases hf
  rename_i l hl;simp only[Option.some.injEq,Prod.mk.injEq,Bool.and_eq_true,Bool.not_eq_true'] at hf;obtain ⟨⟨⟨g0,g1⟩,g2⟩,rfl⟩:=hf;have g0:=Nat.le_of_ble_eq_true g0;have g1:=Am g1;have g2:op<l.length:=by rw[ltI_spec] at g2;simpa using g2
  refine ⟨JH _,bK,5,?_⟩;rw[eF hl,S4,XP g0 g1 g2];rfl
def NP:List jo:=(92,⟨none,[none,none,none],gV fPl⟩)::NA
theorem UX:eI X0 cI NP:=.cons XQ UW
end
end Go.Proofs.YtpaddkkfefgkfaaGreatDoor.ps

namespace Go.Proofs.YtpaddkkfefgkfaaGreatDoor.ps
open Go.Tv Go.Ev Go.Px Go.Pp Go.Proofs.YtpaddkkfefgkfaaGreatDoor.ex
set_option maxRecDepth 100000
noncomputable section
def lH (p:List Nd×Int×Int×Int):Pr:=if p.2.2.1≠0 then bS p.2.2.1 p.2.2.2 else ((3,(0,0),((0,0),(0,0),0,0,0),p.1,false),p.2.1,0,0)
def XR (r:Rg) (a:Int):Pr:=((1,r,((0,0),(0,0),0,0,0),[],false),a+1,0,0)
def aq (l:List Tok) (a:Int):Pr :=
 if a<0\/(l.length:Int)<a then bS 2 0 else
 match at? l a with
 |none=>lH (ak l a)
 |
  some t=>match dZ rp t with
  |some r=>XR r a
  |
   none=>if 0<(dQ t).1 then (if aN l (a+1) [91]=true then eY l (a+1) (dQ t).1 else bS 4 (a+1))
   else if aN l a [91]=true then eY l a 0 else lH (ak l a)
def FE (l:List Tok) (a:Int):kC:=pick2 (Nat.ble l.length 1000000) (pick2 (!eqI (ak l a).2.2.1 0) (iR (bS (ak l a).2.2.1 (ak l a).2.2.2)) (iR ((3,(0,0),((0,0),(0,0),0,0,0),(ak l a).1,false),(ak l a).2.1,0,0))) none
def Zr (l:List Tok) (a:Int):Bool:=Nat.ble l.length 200000 && !ltI a 0&&ltI a l.length
def Ga (l:List Tok) (a:Int):kC :=
 pick2 (ltI a 0) (iR (bS 2 0)) (pick2 (ltI l.length a) (iR (bS 2 0)) (pick2 (ltI a l.length) (Option.rec (motive:=λ_=>kC) none (λt=>pick2 (dZ rp t).isSome
  (iR ((1,(dZ rp t).getD (0,0),((0,0),(0,0),0,0,0),[],false),IntKind.wrap .i64 (a+1),0,0))
  (Option.rec (motive:=λ_=>kC) none (λt=>pick2 (ltI 0 (dQ t).1)
   (pick2 (!ltI (IntKind.wrap .i64 (a+1)) 0) (pick2 (!aN l (IntKind.wrap .i64 (a+1)) [91]) (iR (bS 4 (IntKind.wrap .i64 (a+1)))) (pick2 (Zr l (IntKind.wrap .i64 (a+1))) (iR (eY l (IntKind.wrap .i64 (a+1)) (dQ t).1)) none)) none)
   (pick2 (!ltI a 0) (pick2 (aN l a [91]) (pick2 (Zr l a) (iR (eY l a 0)) none) (FE l a)) none)) (aS l a))) (aS l a)) (FE l a)))
theorem S6 (l:List Tok) (a:Int):ag X0 (cN P2 NP _) bK 5 52 [.bA aH l,.int .i64 a] aa.empty (pX sgR)=Ga l a:=by kernel_rfl
theorem Ds {l:List Tok} {a:Int} (hl:l.length<=200000):FE l a=iR (lH (ak l a)):=by
 unfold FE lH
 rw[fG (show l.length<=1000000 by omega)]
 show pick2 (!eqI (ak l a).2.2.1 0) _ _=_
 rw[aT]
 by_cases h:(ak l a).2.2.1=0
 .
  rw[if_pos h,if_neg (show ¬(ak l a).2.2.1≠0 from λq=>q h)]
 rw[if_neg h,if_pos h]
theorem HW {l:List Tok} {a:Int} (hl:l.length<=200000):Ga l a=iR (aq l a):=by
 unfold Ga aq
 rw[aX,aX,aX,Ds hl]
 by_cases h0:a<0
 .
  rw[if_pos h0,if_pos (.inl h0)]
 rw[if_neg h0]
 by_cases h1:(l.length:Int)<a
 .
  rw[if_pos h1,if_pos (.inr h1)]
 rw[if_neg h1,if_neg (show ¬(a<0\/(l.length:Int)<a) by omega),getI_at?]
 cases dJ:at? l a with
 |
  none =>
  have:=iQ (by omega) dJ
  rw[if_neg (by omega)]
 |
  some t =>
  have hlt:=(gM dJ).2;rw[if_pos hlt];simp only;rw[i64_in (n:=a+1) (by omega) (by omega),cA (show (0:Int)<=a+1 by omega),cA (show (0:Int)<=a by omega)]
  cases hr:dZ rp t with
  |some r=>rfl
  |
   none =>
   show pick2 (ltI 0 (dQ t).1) _ _=_;rw[aX];simp only;by_cases hw:0<(dQ t).1
   .
    rw[if_pos hw,if_pos hw];cases hs:aN l (a+1) [91] with
    |false=>rfl
    |
     true =>
     obtain ⟨c,hc,_⟩:=gO hs;have:=(gM hc).2;show pick2 (Zr l (a+1)) _ _=_;unfold Zr;rw[fG hl,cA (show (0:Int)<=a+1 by omega),kG this];rfl
   rw[if_neg hw,if_neg hw];show pick2 (aN l a [91]) _ _=_;cases hs:aN l a [91] with
   |false=>rfl
   |
    true =>
    show pick2 (Zr l a) _ _=_;unfold Zr;rw[fG hl,cA (show (0:Int)<=a by omega),kG hlt];rfl
def fOp (args:List AV):Option (Bool×List AV) :=
 match args with
 |
  [L,.int .i64 a]=>match xh aH L with
  |some l=>some (Nat.ble l.length 200000,qL (aq l a))
  |none=>none
 |_=>none
theorem HX:dX X0 cI 52 ⟨none,[none,none],gV fOp⟩ :=
 JG rfl p5 UX sgR λvs ws hf=>by
  unfold fOp at hf;split at hf
  case h_2=>cases hf
  rename_i L a;split at hf
  case h_2=>cases hf
  rename_i l hl;simp only[Option.some.injEq,Prod.mk.injEq] at hf;obtain ⟨g0,rfl⟩:=hf;have g0:=Nat.le_of_ble_eq_true g0;refine ⟨JH _,bK,5,?_⟩;rw[eF hl,S6,HW g0];rfl
def NQ:List jo:=(52,⟨none,[none,none],gV fOp⟩)::NP
theorem UY:eI X0 cI NQ:=.cons HX UX
abbrev Ap:=Int×Int×List Raw×Int×Int
def abW (c:Ap):List AV:=[.agg [.int .i64 c.1,.int .i64 c.2.1,.bA jX c.2.2.1],.agg [.int .i64 c.2.2.2.1,.int .i64 c.2.2.2.2]]
def ni (c:Ap):kC:=some (abW c)
def Ge (e f:Int):Ap:=(0,0,[],e,f)
def sgC:List (List (Option Tv.Ty)):=[[none,none,some jX],[none,none]]
def pCm:List Bool:=[true,true,true,true,true,true,true,true,false]
def S7:bG:=⟨cG [0,4,5,6,8,9] pCm,.none,[]⟩
def fCm (l:List Tok) (op a:Int):ck:=fY 115 [(0,.bA aH l),(4,.ptr 0 0),(5,.ptr 1 0),(6,.int .i64 op),(8,.ptr 2 0),(9,.int .i64 a)]
def mCm (op hint:Int) (arg:AV) (rows:List Row):aa:=iC ([.cells 34 [.int .i64 0,.int .i64 0,.br],.cells 56 [.int .i64 0,.int .i64 0],.cells 34 [.int .i64 op,.int .i64 hint,arg]]++rows)
def Pv (l:List Tok) (op hint:Int) (r m:Nat) (a:Int):kC:=cK X0 (cN P2 NQ _) S7 r 41 pCm (pX sgC) m (fCm l op a) (mCm op hint .br [])
def jCm (l:List Tok) (op hint:Int) (r m:Nat) (n:Nat) (a:Int) (args:List Raw):kC:=cK X0 (cN P2 NQ _) S7 r 41 pCm (pX sgC) m (fCm l op a) (mCm op hint (.own 3 n) [.list 99 jX args 0 false false])
def Du (l:List Tok) (op hint:Int) (J:Nat->Int->List Raw->kC) (a:Int) (args:List Raw):kC :=
 (λX:Raw->kC=>pick2 (Nat.ble l.length 200000) (pick2 (!eqI (aq l a).2.2.1 0) (ni (Ge (aq l a).2.2.1 (aq l a).2.2.2))
  (pick2 (eqI (aq l a).1.1 3) (pick2 (fK op) (X (4,(aq l a).1.2)) (X (aq l a).1)) (X (aq l a).1))) none)
 (λraw=>pick2 (Nat.ble (args.length+1) 1000000) (pick2 (eqI (aq l a).2.1 l.length) (ni (op,hint,args++[raw],0,0))
  (pick2 (!ltI (aq l a).2.1 0) (pick2 (!aN l (aq l a).2.1 [44]) (ni (Ge 4 (aq l a).2.1)) (pick2 (eqI ((args.length+1:Nat):Int) 4) (ni (Ge 3 (aq l a).2.1))
   (J (args.length+1) (IntKind.wrap .i64 ((aq l a).2.1+1)) (args++[raw])))) none)) none)
theorem S8 (l:List Tok) (op hint:Int) (r m:Nat) (a:Int):Pv l op hint r (m+1) a=Du l op hint (λn a args=>jCm l op hint r m n a args) a []:=by kernel_rfl
theorem XS (l:List Tok) (op hint:Int) (r m n:Nat) (a:Int) (args:List Raw):jCm l op hint r (m+1) n a args=Du l op hint (λn a args=>jCm l op hint r m n a args) a args:=by kernel_rfl
def cmT (l:List Tok) (a:Int) (J:Int->Int->Int->kC):kC :=
 pick2 (ltI a 0) (ni (Ge 2 0)) (pick2 (ltI l.length a) (ni (Ge 2 0)) (pick2 (!ltI a 0) (pick2 (!(zY l a).2) (ni (Ge 6 a))
  ((
   λgo:Int->Int->kC=>pick2 (ltI (IntKind.wrap .i64 (a+1)) l.length) (Option.rec (motive:=λ_=>kC) none (λt=>pick2 (!eqI (dQ t).2 0) (go (dQ t).2 (IntKind.wrap .i64 (IntKind.wrap .i64 (a+1)+1))) (go 0 (IntKind.wrap .i64 (a+1)))) (aS l (IntKind.wrap .i64 (a+1)))) (go 0 (IntKind.wrap .i64 (a+1))))
   (λhint b=>pick2 (eqI b l.length) (ni ((zY l a).1,hint,[],0,0)) (J (zY l a).1 hint b)))) none))
theorem S9 (l:List Tok) (a:Int) (r:Nat):ag X0 (cN P2 NQ _) S7 r 41 [.bA aH l,.int .i64 a] aa.empty (pX sgC)=cmT l a (λop hint b=>Pv l op hint r r b):=by kernel_rfl
def gx (op:Int) (w:Raw):Raw:=if w.1=3/\fK op=true then (4,w.2) else w
def zZ (l:List Tok) (op hint:Int):Nat->Int->List Raw->Option Ap
 |0,_,_=>none
 |
  n+1,a,args =>
  if (aq l a).2.2.1≠0 then some (Ge (aq l a).2.2.1 (aq l a).2.2.2)
  else if (aq l a).2.1=l.length then some (op,hint,args++[gx op (aq l a).1],0,0)
  else if aN l (aq l a).2.1 [44]=false then some (Ge 4 (aq l a).2.1)
  else if args.length+1=4 then some (Ge 3 (aq l a).2.1)
  else zZ l op hint n ((aq l a).2.1+1) (args++[gx op (aq l a).1])
def HY (l:List Tok) (op h a:Int):Ap :=
 if (if h=0 then a+1 else a+2)=(l.length:Int) then (op,h,[],0,0) else (zZ l op h 5 (if h=0 then a+1 else a+2) []).getD (Ge 0 0)
def jt (l:List Tok) (a:Int):Int:=match at? l (a+1) with
 |some t=>(dQ t).2
 |none=>0
def aF (l:List Tok) (a:Int):Ap :=
 if a<0\/(l.length:Int)<a then Ge 2 0
 else if (zY l a).2=false then Ge 6 a
 else HY l (zY l a).1 (jt l a) a
theorem qD {l:List Tok} {i:Int} (h0:0<=i) (h1:i<l.length):∃t,at? l i=some t:=by
 cases dJ:at? l i with
 |some t=>exact ⟨t,rfl⟩
 |none=>have:=iQ h0 dJ;omega
theorem Pw {l:List Tok} {sg:List UInt8} {a b:Int} {s:TS} (h0:0<=a) (hb:b<=l.length) (h:(dR rp l sg a b s).1=false):(dR rp l sg a b s).2.1≠0:=by
 have key:∀o:js,(∃s e f,e≠0/\o=ee s e f)\/(∃s,o=okO s)->o.1=false->o.2.1≠0:=λo ho h=>by
  rcases ho with ⟨s,e,f,he,rfl⟩|⟨s,rfl⟩
  .
   exact he
  cases h
 have hal:∀r,(∃s' e f,e≠0/\fH sg r a s=ee s' e f)\/(∃s',fH sg r a s=okO s'):=λr=>by
  unfold fH;split
  .
   exact .inl ⟨_,_,_,by decide,rfl⟩
  split
  .
   exact .inr ⟨_,rfl⟩
  split
  .
   exact .inr ⟨_,rfl⟩
  exact .inl ⟨_,_,_,by decide,rfl⟩
 have hsc:∀r num n,(∃s' e f,e≠0/\dB sg r a num n s=ee s' e f)\/(∃s',dB sg r a num n s=okO s'):=λr num n=>by
  unfold dB;split
  .
   exact .inl ⟨_,_,_,by decide,rfl⟩
  split
  .
   exact .inr ⟨_,rfl⟩
  exact .inl ⟨_,_,_,by decide,rfl⟩
 refine key _ ?_ h
 unfold dR
 split
 .
  exact .inl ⟨_,_,_,by decide,rfl⟩
 split
 .
  obtain ⟨t,ht⟩:=qD (l:=l) (i:=a) h0 (by omega)
  rw[ht];simp only;split
  .
   exact hal _
  split
  .
   exact hal _
  exact .inr ⟨_,rfl⟩
 split
 .
  obtain ⟨t,ht⟩:=qD (l:=l) (i:=a) h0 (by omega)
  obtain ⟨u,hu⟩:=qD (l:=l) (i:=a+2) (by omega) (by omega)
  rw[ht,hu];simp only;split
  .
   split
   .
    exact hsc _ _ _
   split
   .
    exact hsc _ _ _
   exact .inr ⟨_,rfl⟩
  .
   split
   .
    exact hsc _ _ _
   exact .inr ⟨_,rfl⟩
  .
   split
   .
    exact hsc _ _ _
   exact .inr ⟨_,rfl⟩
  exact .inr ⟨_,rfl⟩
 exact .inr ⟨_,rfl⟩
theorem zq {l:List Tok} {en:Int} (hel:en<l.length):∀(m:Nat) (sg:List UInt8) (a:Int) (s:TS) (o:js),0<=a->a<=en->Pp.gw rp l en m sg a s=some o->o.1=false->o.2.1≠0
 |0,_,_,_,_,_,_,h,_=>by cases h
 |
  m+1,sg,a,s,o,h0,h1,h,ho=>by
  obtain ⟨b1,b2⟩:=zn (l:=l) (a:=a) (e:=en) h0 h1 (by omega)
  have hb:=Pw (l:=l) (sg:=sg) (a:=a) (b:=bx l a en) (s:=s) h0 (by omega)
  unfold Pp.gw at h;split at h
  .
   split at h
   .
    cases h;cases ho
   split at h
   .
    exact zq hel m _ _ _ o (by omega) (by omega) h ho
   cases h
  rename_i x f s' hs;cases h;rw[hs] at hb;exact hb rfl
theorem Py {l:List Tok} {op en:Int} {s:TS} (hl:l.length<=200000) (hs:s.put=[]) (h0:0<=op) (h1:op+1<=en) (h2:en<l.length) (hc:aN l en [93]=true) (h:(fI l op en s).1=false):(fI l op en s).2.1≠0:=by
 obtain ⟨ce,hce,Ur⟩:=gO hc
 have key:∀r:Option js,(∃o,r=some o)->(∀o,r=some o->o.1=false->o.2.1≠0)->(r.getD (ee s 0 0)).1=false->(r.getD (ee s 0 0)).2.1≠0:=λr ⟨o,ho⟩ h1 h2=>by
  subst ho;exact h1 o rfl h2
 have hput:∀a:Int,0<=a->(s.put.length:Int)<=4*a:=λa h=>by rw[hs];show (0:Int)<=_;omega
 unfold fI at h ⊢
 refine key _ ?_ (λo ho=>?_) h
 .
  split
  .
   rename_i DH
   have:op+2<=en:=by
    by_cases he:en=op+1
    .
     exfalso;rw[he] at hce;rcases DH with h|h<;>(obtain ⟨c2,k1,k2⟩:=gO h;rw[hce] at k1;cases k1;rw[Dp Ur (by decide)] at k2;cases k2)
    omega
   obtain ⟨o,h3,_⟩:=Dn (l:=l) (op:=op) (en:=en) (sz:=0) (r:=0) hl h2 (l.length+1) ((at? l (op+1)).getD zh).2.2.1 (op+2) s (by omega) this (hput _ (by omega)) (by omega)
   exact ⟨o,h3⟩
  obtain ⟨o,h3,_⟩:=Dn (l:=l) (op:=op) (en:=en) (sz:=0) (r:=0) hl h2 (l.length+1) [43] (op+1) s (by omega) h1 (hput _ (by omega)) (by omega)
  exact ⟨o,h3⟩
 split at ho
 .
  rename_i DH
  have:op+2<=en:=by
   by_cases he:en=op+1
   .
    exfalso;rw[he] at hce;rcases DH with h|h<;>(obtain ⟨c2,k1,k2⟩:=gO h;rw[hce] at k1;cases k1;rw[Dp Ur (by decide)] at k2;cases k2)
   omega
  exact zq h2 _ _ _ _ o (by omega) this ho
 exact zq h2 _ _ _ _ o (by omega) h1 ho
theorem BX {l:List Tok} {op sz:Int} (hl:l.length<=200000) (h0:0<=op) (h1:op<l.length) (h:(eY l op sz).2.2.1=0):op<(eY l op sz).2.1/\(eY l op sz).2.1<=l.length:=by
 have hnone:∀e f,(bS e f).2.2.1=0->e=0:=λe f h=>h
 unfold eY at h ⊢
 split at h
 .
  rename_i hr;rw[if_pos hr];split at h
  .
   rename_i he;exact absurd h he
  rename_i he;have he:(ak l (op+2)).2.2.1=0:=Classical.not_not.1 he;obtain ⟨q1,q2⟩:=vF he;rw[if_neg (λq=>q he)]
  split at h
  .
   rename_i hs;rw[if_pos hs];obtain ⟨c,hc,_⟩:=gO hs;have:=(gM hc).2;show op<(ak l (op+2)).2.1+1/\(ak l (op+2)).2.1+1<=_;omega
  cases h
 rename_i hr
 rw[if_neg hr]
 split at h
 .
  cases h
 rename_i en hc
 obtain ⟨c1,c2,c3⟩:=BW (by omega) (by omega) hc
 have key:∀o,(∀b,o.1=b->b=true->o.2.1=0/\o.2.2.1=0)->(sv l op en sz o).2.2.1=0->(sv l op en sz o).2.1=en+1\/(o.1=false/\o.2.1=0):=λo _ h=>by
  unfold sv at h ⊢;split at h
  .
   rename_i ho;exact .inr ⟨ho,h⟩
  rename_i ho;rw[if_neg ho]
  left
  split at h
  .
   rename_i hp;rw[if_pos hp];split at h
   .
    rename_i hm;rw[if_pos hm];rfl
   cases h
  rename_i hp;rw[if_neg hp];split at h
  .
   rename_i he;exact absurd h he
  rename_i he;rw[if_neg he];split at h
  .
   cases h
  rename_i hq;rw[if_neg hq];split at h
  .
   rename_i hm;rw[if_pos hm];rfl
  cases h
 rcases key (fI l op en FD) (λb hb ht=>JF (hb.trans ht)) h with hk|⟨k1,k2⟩
 .
  show op<(sv l op en sz (fI l op en FD)).2.1/\(sv l op en sz (fI l op en FD)).2.1<=_;rw[hk];omega
 exact absurd k2 (Py hl rfl h0 c1 c2 c3 k1)
theorem FF {l:List Tok} {a:Int} (hl:l.length<=200000) (h:(aq l a).2.2.1=0):0<=a/\a<(aq l a).2.1/\(aq l a).2.1<=l.length:=by
 have Pz:(lH (ak l a)).2.2.1=0->a<(lH (ak l a)).2.1/\(lH (ak l a)).2.1<=l.length:=λh=>by
  unfold lH at h ⊢;split at h
  .
   rename_i he;exact absurd h he
  rename_i he;rw[if_neg he];exact vF (Classical.not_not.1 he)
 unfold aq at h ⊢
 split at h
 .
  cases h
 rename_i h0
 rw[if_neg h0]
 refine ⟨by omega,?_⟩
 cases dJ:at? l a with
 |none=>rw[dJ] at h;exact Pz h
 |
  some t =>
  rw[dJ] at h;have hlt:=(gM dJ).2;simp only at h ⊢;cases hr:dZ rp t with
  |some r=>show a<a+1/\a+1<=_;omega
  |
   none =>
   rw[hr] at h;simp only at h ⊢;split at h
   .
    rename_i hw;rw[if_pos hw];split at h
    .
     rename_i hs;rw[if_pos hs];obtain ⟨c,hc,_⟩:=gO hs;have:=(gM hc).2;have:=BX hl (by omega) this h
     omega
    cases h
   rename_i hw;rw[if_neg hw];split at h
   .
    rename_i hs;rw[if_pos hs];exact BX hl (by omega) hlt h
   rename_i hs;rw[if_neg hs];exact Pz h
theorem BZ {l:List Tok} {op hint:Int} (hl:l.length<=200000) {m:Nat} {J:Nat->Int->List Raw->kC} {a:Int} {args:List Raw} (hn:args.length<=3)
 (ih:∀b,args.length+1<=3->∃c,zZ l op hint m b (args++[gx op (aq l a).1])=some c/\J (args.length+1) b (args++[gx op (aq l a).1])=ni c):∃c,zZ l op hint (m+1) a args=some c/\Du l op hint J a args=ni c:=by
 unfold Du
 simp only
 rw[fG hl,fG (show args.length+1<=1000000 by omega)]
 have Ir:∀X:Raw->kC,(pick2 (eqI (aq l a).1.1 3) (pick2 (fK op) (X (4,(aq l a).1.2)) (X (aq l a).1)) (X (aq l a).1))=X (gx op (aq l a).1):=λX=>by
  rw[az];unfold gx;by_cases h3:(aq l a).1.1=3
  .
   rw[if_pos h3];cases fK op with
   |true=>rw[if_pos ⟨h3,rfl⟩]
   |false=>rw[if_neg (show ¬((aq l a).1.1=3/\false=true) from λh=>by cases h.2)]
  rw[if_neg h3,if_neg (show ¬((aq l a).1.1=3/\fK op=true) from λh=>h3 h.1)]
 have hX:=Ir (λraw=>pick2 true (pick2 (eqI (aq l a).2.1 l.length) (ni (op,hint,args++[raw],0,0))
  (pick2 (!ltI (aq l a).2.1 0) (pick2 (!aN l (aq l a).2.1 [44]) (ni (Ge 4 (aq l a).2.1)) (pick2 (eqI ((args.length+1:Nat):Int) 4) (ni (Ge 3 (aq l a).2.1))
   (J (args.length+1) (IntKind.wrap .i64 ((aq l a).2.1+1)) (args++[raw])))) none)) none)
 refine (congrArg (λz=>∃c,zZ l op hint (m+1) a args=some c/\pick2 true (pick2 (!eqI (aq l a).2.2.1 0) (ni (Ge (aq l a).2.2.1 (aq l a).2.2.2)) z) none=ni c) hX).mpr ?_
 unfold zZ
 show ∃c,_/\pick2 (!eqI (aq l a).2.2.1 0) _ _=_
 rw[aT]
 by_cases he:(aq l a).2.2.1=0
 .
  obtain ⟨q0,q1,q2⟩:=FF hl he;rw[if_pos he,if_neg (show ¬(aq l a).2.2.1≠0 from λh=>h he)]
  show ∃c,_/\pick2 (eqI (aq l a).2.1 l.length) _ _=_;rw[az];by_cases h1:(aq l a).2.1=l.length
  .
   rw[if_pos h1,if_pos h1];exact ⟨_,rfl,rfl⟩
  rw[if_neg h1,if_neg h1,cA (by omega),i64_in (n:=(aq l a).2.1+1) (by omega) (by omega)]
  show ∃c,_/\pick2 (!aN l (aq l a).2.1 [44]) _ _=_;cases aN l (aq l a).2.1 [44] with
  |false=>exact ⟨_,rfl,rfl⟩
  |
   true =>
   rw[if_neg (show ¬true=false by decide)]
   show ∃c,_/\pick2 (eqI ((args.length+1:Nat):Int) 4) _ _=_;rw[az];by_cases h4:args.length+1=4
   .
    rw[if_pos h4,if_pos (by omega)];exact ⟨_,rfl,rfl⟩
   rw[if_neg h4,if_neg (by omega)]
   exact ih _ (by omega)
 rw[if_neg he,if_pos he];exact ⟨_,rfl,rfl⟩
theorem PA {l:List Tok} {op hint:Int} (hl:l.length<=200000) {r:Nat}:∀(m:Nat) (a:Int) (args:List Raw),args.length<=3->4<=args.length+m->∃c,zZ l op hint m a args=some c/\jCm l op hint r m args.length a args=ni c
 |0,a,args,h1,h2=>by omega
 |
  m+1,a,args,h1,h2=>by
  rw[XS];refine BZ hl h1 λb hb=>?_
  have:=PA (op:=op) (hint:=hint) hl (r:=r) m b (args++[gx op (aq l a).1]) (by simp;omega) (by simp;omega)
  rw[show (args++[gx op (aq l a).1]).length=args.length+1 by simp] at this
  exact this
theorem Ta {l:List Tok} {op hint:Int} (hl:l.length<=200000) {r:Nat} (a:Int):Pv l op hint r 5 a=ni ((zZ l op hint 5 a []).getD (Ge 0 0)):=by
 rw[S8]
 obtain ⟨c,h1,h2⟩:=BZ (l:=l) (op:=op) (hint:=hint) hl (m:=4) (J:=λn a args=>jCm l op hint r 4 n a args) (a:=a) (args:=[]) (by simp) λb hb=>PA (op:=op) (hint:=hint) hl (r:=r) 4 b ([]++[gx op (aq l a).1]) (by simp) (by simp)
 rw[h1]
 exact h2
theorem XT {l:List Tok} {a:Int} (hl:l.length<=200000):cmT l a (λop hint b=>Pv l op hint 5 5 b)=ni (aF l a):=by
 unfold cmT aF
 rw[aX,aX]
 by_cases h0:a<0
 .
  rw[if_pos h0,if_pos (.inl h0)]
 rw[if_neg h0,cA (by omega)]
 by_cases h1:(l.length:Int)<a
 .
  rw[if_pos h1,if_pos (.inr h1)]
 rw[if_neg h1,if_neg (show ¬(a<0\/(l.length:Int)<a) by omega)]
 show pick2 (!(zY l a).2) _ _=_
 cases (zY l a).2 with
 |false=>rfl
 |
  true =>
  rw[if_neg (show ¬true=false by decide)]
  show pick2 (ltI (IntKind.wrap .i64 (a+1)) l.length) _ _=_;rw[i64_in (n:=a+1) (by omega) (by omega),i64_in (n:=a+1+1) (by omega) (by omega),aX,getI_at?]
  have go:∀hint b:Int,(if hint=0 then a+1 else a+2)=b->(pick2 (eqI b l.length) (ni ((zY l a).1,hint,[],0,0)) (Pv l (zY l a).1 hint 5 5 b))=ni (HY l (zY l a).1 hint a):=λhint b hb=>by
   unfold HY;rw[hb,az,Ta hl];split<;>rfl
  have h0:=go 0 (a+1) rfl;cases dJ:at? l (a+1) with
  |
   none =>
   have:=iQ (by omega) dJ
   have hh:jt l a=0:=by unfold jt;rw[dJ]
   rw[if_neg (by omega),hh]
   exact h0
  |
   some t =>
   have hh:jt l a=(dQ t).2:=by unfold jt;rw[dJ]
   rw[if_pos (gM dJ).2,hh];show pick2 (!eqI (dQ t).2 0) _ _=_;rw[aT];by_cases hw:(dQ t).2=0
   .
    rw[if_pos hw,hw];exact h0
   rw[if_neg hw];exact go _ _ (by rw[if_neg hw];omega)
def gCm (args:List AV):Option (Bool×List AV) :=
 match args with
 |
  [L,.int .i64 a]=>match xh aH L with
  |some l=>some (Nat.ble l.length 200000,abW (aF l a))
  |none=>none
 |_=>none
theorem XU:dX X0 cI 41 ⟨none,[none,none],gV gCm⟩ :=
 JG rfl p5 UY sgC λvs ws hf=>by
  unfold gCm at hf;split at hf
  case h_2=>cases hf
  rename_i L a;split at hf
  case h_2=>cases hf
  rename_i l hl;simp only[Option.some.injEq,Prod.mk.injEq] at hf;obtain ⟨g0,rfl⟩:=hf;have g0:=Nat.le_of_ble_eq_true g0;refine ⟨rfl,S7,5,?_⟩;rw[eF hl,S9,XT g0];rfl
def NC:List jo:=(41,⟨none,[none,none],gV gCm⟩)::NQ
theorem UZ:eI X0 cI NC:=.cons XU UY
end
end Go.Proofs.YtpaddkkfefgkfaaGreatDoor.ps
