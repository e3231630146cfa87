/- Places: all terms. Places: the contract of place. Operands and instructions: the contracts of Operand and Command. -/
import Derived.Test.YtpaddkkfefgkfaaGreatDoorGrd
set_option linter.unusedVariables false
set_option linter.unusedSimpArgs false

namespace Go.Proofs.YtpaddkkfefgkfaaGreatDoor.ps
open Go.Tv Go.Ev Go.Px Go.Pp Go.Proofs.YtpaddkkfefgkfaaGreatDoor.ex
set_option maxRecDepth 100000
noncomputable section
def NO:List gJ:=(165,Y0 fOn [none,none,none])::NS
theorem Ww:bS X0 cg NO:=.cons Y6 Wv
def ahx (l:List Tok) (op en sz:Int) (n:Nat) (s:TS) (e f:Int):aa:=Qk [.cells 197 [.bF aC l,.int .i64 op,.int .i64 en,.int .i64 s.bc,.int .i64 s.bn,.int .i64 s.ic,.int .i64 s.ix,.int .i64 s.sc,.int .i64 0,.int .i64 sz,.own 1 n,.own 2 0,.int .i64 e,.int .i64 f],.list 106 aC s.put 0 false false,.list 50 bB [] 0 false false]
def pAl:List Bool:=[true,true,true,false]
def Y7:bG:=⟨dG [0,3,4] pAl,.none,[]⟩
def Y8 (l:List Tok) (op en sz:Int) (r m:Nat) (sg:List UInt8) (a:Int) (s:TS) (e f:Int) (n:Nat):aH:=dH X0 (cN P2 NO _) Y7 r 135 pAl (ME [none]) m (hU 60 [(0,.ptr 0 0),(3,.int .i64 a),(4,.str sg)]) (ahx l op en sz n s e f)
def stB (l:List Tok) (en a:Int):Bool:=Nat.ble l.length 1000000 && !ltI a 1 && !ltI en a && !ltI l.length en
def onB (l:List Tok) (en a b:Int) (s:TS):Bool:=Nat.ble l.length 200000 && !ltI a 0 && !ltI b a && !ltI en b&&ltI en l.length && !ltI (4*a) s.put.length
def Jg (l:List Tok) (op en sz:Int) (J:List UInt8->Int->TS->Int->Int->Nat->aH) (sg:List UInt8) (a:Int) (s:TS) (e f:Int):aH :=
 pick2 (stB l en a&&(eqI e 0&&eqI f 0)&&true) (pick2 (onB l en a (bR l a en) s&&true&&true)
  (pick2 (!(fS rp l sg a (bR l a en) s).1) (lf (.bool false) l op en sz (fS rp l sg a (bR l a en) s).2.2.2 (fS rp l sg a (bR l a en) s).2.1 (fS rp l sg a (bR l a en) s).2.2.1 (fS rp l sg a (bR l a en) s).2.2.2.put.length)
   (pick2 (eqI (bR l a en) en) (lf (.bool true) l op en sz (fS rp l sg a (bR l a en) s).2.2.2 (fS rp l sg a (bR l a en) s).2.1 (fS rp l sg a (bR l a en) s).2.2.1 (fS rp l sg a (bR l a en) s).2.2.2.put.length)
    (Option.rec (motive:=λ_=>aH) none (λy=>J y.2.2.1 (IntKind.wrap .i64 (bR l a en+1)) (fS rp l sg a (bR l a en) s).2.2.2 (fS rp l sg a (bR l a en) s).2.1 (fS rp l sg a (bR l a en) s).2.2.1 (fS rp l sg a (bR l a en) s).2.2.2.put.length) (aI l (bR l a en))))) none) none
theorem Y9 (l:List Tok) (op en sz:Int) (r m:Nat) (sg:List UInt8) (a:Int) (bc bn ic ix sc:Int) (put:List Tok) (e f:Int) (n:Nat):Y8 l op en sz r (m+1) sg a ⟨bc,bn,ic,ix,sc,put⟩ e f n=Jg l op en sz (Y8 l op en sz r m) sg a ⟨bc,bn,ic,ix,sc,put⟩ e f:=by kernel_rfl
def QT (l:List Tok) (op:Int) (J:List UInt8->Int->aH):aH :=
 (λyes:aH=>pick2 (!ltI (IntKind.wrap .i64 (op+1)) 0) (pick2 (aX l (IntKind.wrap .i64 (op+1)) [43]) yes (pick2 (!ltI (IntKind.wrap .i64 (op+1)) 0) (pick2 (aX l (IntKind.wrap .i64 (op+1)) [45]) yes (J [43] (IntKind.wrap .i64 (op+1)))) none)) none)
  (Option.rec (motive:=λ_=>aH) none (λy=>J y.2.2.1 (IntKind.wrap .i64 (IntKind.wrap .i64 (op+1)+1))) (aI l (IntKind.wrap .i64 (op+1))))
theorem Uv (l:List Tok) (op en sz:Int) (r:Nat) (bc bn ic ix sc:Int) (put:List Tok):ag X0 (cN P2 NO _) Y7 r 135 [.ptr 0 0] (ct 197 14 (vX l op en sz ⟨bc,bn,ic,ix,sc,put⟩ 0 0++[])) (ME [none])=QT l op (λsg a=>Y8 l op en sz r r sg a ⟨bc,bn,ic,ix,sc,put⟩ 0 0 put.length):=by kernel_rfl
theorem uA (e:Int):∀(r:List Tok) (p:Tok) (a d:Int),a+r.length=e->a<=ni e p r a d/\ni e p r a d<=e
 |
  [],p,a,d,h=>by
  have h:a+0=e:=h;unfold ni;omega
 |
  t::r,p,a,d,h=>by
  have hl:(a+1)+r.length=e:=by simp at h;omega
  unfold ni;have i1:=uA e r t (a+1) (d+1) hl;have i2:=uA e r t (a+1) (if 0<d-1 then d-1 else 0) hl;have i3:=uA e r t (a+1) d hl;split
  .
   omega
  split
  .
   omega
  split<;>omega
theorem uB {l:List Tok} {a e:Int} (h0:0<=a) (h1:a<=e) (h2:e<=l.length):a<=bR l a e/\bR l a e<=e:=by
 unfold bR
 exact uA e _ _ _ _ (by rw[List.length_drop,List.length_take];omega)
theorem Uw {l:List Tok} {sg:List UInt8} {a b:Int} {s:TS} (h:(fS rp l sg a b s).1=true):(fS rp l sg a b s).2.1=0/\(fS rp l sg a b s).2.2.1=0:=by
 have key:∀o:jx,(∃s e f,o=eS s e f)\/(∃s,o=okO s)->o.1=true->o.2.1=0/\o.2.2.1=0:=λo ho h=>by
  rcases ho with ⟨s,e,f,rfl⟩|⟨s,rfl⟩
  .
   cases h
  exact ⟨rfl,rfl⟩
 have hal:∀r,(∃s' e f,fL sg r a s=eS s' e f)\/(∃s',fL sg r a s=okO s'):=λr=>by
  unfold fL;split
  .
   exact .inl ⟨_,_,_,rfl⟩
  split
  .
   exact .inr ⟨_,rfl⟩
  split
  .
   exact .inr ⟨_,rfl⟩
  exact .inl ⟨_,_,_,rfl⟩
 have hsc:∀r num n,(∃s' e f,cX sg r a num n s=eS s' e f)\/(∃s',cX sg r a num n s=okO s'):=λr num n=>by
  unfold cX;split
  .
   exact .inl ⟨_,_,_,rfl⟩
  split
  .
   exact .inr ⟨_,rfl⟩
  exact .inl ⟨_,_,_,rfl⟩
 refine key _ ?_ h
 unfold fS
 split
 .
  exact .inl ⟨_,_,_,rfl⟩
 split
 .
  split
  .
   split
   .
    exact hal _
   split
   .
    exact hal _
   exact .inr ⟨_,rfl⟩
  exact .inl ⟨_,_,_,rfl⟩
 split
 .
  split
  .
   split
   .
    split
    .
     exact hsc _ _ _
    split
    .
     exact hsc _ _ _
    exact .inr ⟨_,rfl⟩
   .
    split
    .
     exact hsc _ _ _
    exact .inr ⟨_,rfl⟩
   .
    split
    .
     exact hsc _ _ _
    exact .inr ⟨_,rfl⟩
   exact .inr ⟨_,rfl⟩
  exact .inl ⟨_,_,_,rfl⟩
 exact .inr ⟨_,rfl⟩
theorem Gz {l:List Tok} {sg:List UInt8} {a b:Int} {s:TS} (h0:0<=a) (hab:a<=b):((fS rp l sg a b s).2.2.2.put.length:Int)<=s.put.length+3+(b-a):=by
 have hal:∀r,((fL sg r a s).2.2.2.put.length:Int)<=s.put.length+3+(b-a):=λr=>by
  have:(fL sg r a s).2.2.2.put=s.put:=by
   unfold fL;split
   .
    rfl
   split
   .
    rfl
   split<;>rfl
  rw[this];omega
 have hsc:∀r num n,((cX sg r a num n s).2.2.2.put.length:Int)<=s.put.length+3+(b-a):=λr num n=>by
  have:(cX sg r a num n s).2.2.2.put=s.put:=by
   unfold cX;split
   .
    rfl
   split<;>rfl
  rw[this];omega
 have hot:((kN l sg a b s).2.2.2.put.length:Int)<=s.put.length+3+(b-a):=by
  have hc:(I4 l a b).length<=(b-a).toNat:=by unfold I4;rw[List.length_take];omega
  unfold kN okO;simp only[List.length_append,List.length_cons,List.length_nil];split
  .
   simp only[List.length_append,List.length_cons,List.length_nil];omega
  omega
 have hf:∀e f,((eS s e f).2.2.2.put.length:Int)<=s.put.length+3+(b-a):=λe f=>by show (s.put.length:Int)<=_;omega
 unfold fS
 split
 .
  exact hf _ _
 split
 .
  split
  .
   split
   .
    exact hal _
   split
   .
    exact hal _
   exact hot
  exact hf _ _
 split
 .
  split
  .
   split
   .
    split
    .
     exact hsc _ _ _
    split
    .
     exact hsc _ _ _
    exact hot
   .
    split
    .
     exact hsc _ _ _
    exact hot
   .
    split
    .
     exact hsc _ _ _
    exact hot
   exact hot
  exact hf _ _
 exact hot
theorem D1 {l:List Tok} {op en sz:Int} {r:Nat} (hl:l.length<=200000) (hel:en<l.length):∀(m:Nat) (sg:List UInt8) (a:Int) (s:TS),1<=a->a<=en->(s.put.length:Int)<=4*a->en-a<m ->
 ∃o,iK rp l en m sg a s=some o/\Y8 l op en sz r m sg a s 0 0 s.put.length=lfO l op en sz o
 |0,sg,a,s,h1,h2,h3,h4=>by omega
 |
  m+1,sg,a,s,h1,h2,h3,h4=>by
  obtain ⟨b1,b2⟩:=uB (l:=l) (a:=a) (e:=en) (by omega) h2 (by omega)
  have hst:stB l en a=true:=by
   unfold stB;rw[bO (by omega),cF h1,cF h2,cF (show en<=(l.length:Int) by omega)];rfl
  have hon:onB l en a (bR l a en) s=true:=by
   unfold onB;rw[bO hl,cF (show 0<=a by omega),cF b1,cF b2,kW hel,cF h3];rfl
  have hstep:=Y9 l op en sz r m sg a s.bc s.bn s.ic s.ix s.sc s.put 0 0 s.put.length;have hstep:Y8 l op en sz r (m+1) sg a s 0 0 s.put.length=Jg l op en sz (Y8 l op en sz r m) sg a s 0 0:=hstep;rw[hstep];unfold Jg;rw[hst,hon]
  have hgo:iK rp l en (m+1) sg a s=match fS rp l sg a (bR l a en) s with
   |
    (true,_,_,s')=>if bR l a en=en then some (okO s') else match at? l (bR l a en) with
    |some t=>iK rp l en m t.2.2.1 (bR l a en+1) s'
    |none=>none
   |(false,x,f,s')=>some (eS s' x f):=rfl
  rw[hgo];have hok:=Uw (l:=l) (sg:=sg) (a:=a) (b:=bR l a en) (s:=s);have hput:=Gz (l:=l) (sg:=sg) (a:=a) (b:=bR l a en) (s:=s) (by omega) b1
  generalize hO:fS rp l sg a (bR l a en) s=o at hok hput;obtain ⟨ob,oe,of,os⟩:=o;cases ob with
  |false=>exact ⟨_,rfl,rfl⟩
  |
   true =>
   obtain ⟨rfl,rfl⟩:=hok rfl;simp only at hput ⊢;show ∃o,_/\pick2 (eqI (bR l a en) en) _ _=_;rw[aB];by_cases hb:bR l a en=en
   .
    rw[if_pos hb,if_pos hb];exact ⟨_,rfl,rfl⟩
   rw[if_neg hb,if_neg hb,getI_at?]
   obtain ⟨t,ht⟩:∃t,at? l (bR l a en)=some t:=by
    cases cH:at? l (bR l a en) with
    |some t=>exact ⟨t,rfl⟩
    |none=>have:=dA (by omega) cH;omega
   rw[ht];simp only;rw[i64_in (n:=bR l a en+1) (by omega) (by omega)]
   exact D1 hl hel m t.2.2.1 (bR l a en+1) os (by omega) (by omega) (by omega) (by omega)
def fT (l:List Tok) (op en:Int) (s:TS):jx :=
 (if aX l (op+1) [43]=true\/aX l (op+1) [45]=true then iK rp l en (l.length+1) ((at? l (op+1)).getD QF).2.2.1 (op+2) s
  else iK rp l en (l.length+1) [43] (op+1) s).getD (eS s 0 0)
def fAl:YZ:=λl op en s args=>match args with
 |[]=>some (Nat.ble l.length 200000 && !ltI op 0 && !ltI en (op+1)&&ltI en l.length&&s.put.isEmpty&&aX l en [93],((fT l op en s).2.1,(fT l op en s).2.2.1,(fT l op en s).2.2.2),[.val (.bool (fT l op en s).1)])
 |_=>none
theorem dR {l:List Tok} {a:Int} {t:List UInt8} (h:aX l a t=true):∃c,at? l a=some c/\jw c t=true:=by
 unfold aX at h
 split at h
 .
  rename_i c hc;exact ⟨c,hc,h⟩
 cases h
theorem z8 {c:Tok} {s t:List UInt8} (h:jw c s=true) (hne:s≠t):jw c t=false:=by
 unfold jw at h ⊢
 simp only[Bool.and_eq_true,decide_eq_true_eq] at h
 rw[decide_eq_true h.1,h.2,decide_eq_false hne];rfl
theorem Za:bh X0 cg 135 (Y0 fAl []) :=
 Jc rfl xh Ww (mK:=[none]) λl op en sz s args q rs hF hal=>by
  unfold fAl at hF;split at hF
  case h_2=>cases hF
  simp only[Option.some.injEq,Prod.mk.injEq,Bool.and_eq_true,Bool.not_eq_true'] at hF;obtain ⟨⟨⟨⟨⟨⟨g0,g1⟩,g2⟩,g3⟩,g4⟩,g5⟩,rfl,rfl⟩:=hF;have g0:=Nat.le_of_ble_eq_true g0;have g1:=A9 g1;have g2:=A9 g2;have g3:en<l.length:=by rw[ltI_spec] at g3;simpa using g3
  have g4:s.put=[]:=List.isEmpty_iff.1 g4;refine ⟨[],[.bool (fT l op en s).1],Y7,l.length+1,rfl,rfl,?_⟩;have h1:=Uv l op en sz (l.length+1) s.bc s.bn s.ic s.ix s.sc s.put;refine h1.trans ?_;unfold QT;simp only;rw[i64_in (n:=op+1) (by omega) (by omega),cF (show (0:Int)<=op+1 by omega),i64_in (n:=op+1+1) (by omega) (by omega),getI_at?]
  obtain ⟨c,hc⟩:∃c,at? l (op+1)=some c:=by
   cases cH:at? l (op+1) with
   |some t=>exact ⟨t,rfl⟩
   |none=>have:=dA (by omega) cH;omega
  have go:∀(sg:List UInt8) (a:Int),op+1<=a->a<=en->fT l op en s=((iK rp l en (l.length+1) sg a s).getD (eS s 0 0))->Y8 l op en sz (l.length+1) (l.length+1) sg a s 0 0 s.put.length=some (vX l op en sz (fT l op en s).2.2.2 (fT l op en s).2.1 (fT l op en s).2.2.1++[AV.bool (fT l op en s).1].map bu.val,[(fT l op en s).2.2.2.put.length,0]):=λsg a h1 h2 h3=>by
   obtain ⟨o,e1,e2⟩:=D1 (l:=l) (op:=op) (en:=en) (sz:=sz) (r:=l.length+1) g0 g3 (l.length+1) sg a s (by omega) h2 (by rw[g4];show (0:Int)<=_;omega) (by omega)
   rw[e2,h3,e1];rfl
  obtain ⟨ce,hce,SE⟩:=dR g5
  have hne:(aX l (op+1) [43]=true\/aX l (op+1) [45]=true)->op+2<=en:=λh=>by
   by_cases he:en=op+1
   .
    exfalso;rw[he] at hce;rcases h with h|h<;>(obtain ⟨c2,k1,k2⟩:=dR h;rw[hce] at k1;cases k1;rw[z8 SE (by decide)] at k2;cases k2)
   omega
  rw[hc];by_cases hs:aX l (op+1) [43]=true\/aX l (op+1) [45]=true
  .
   have hy:=go c.2.2.1 (op+1+1) (by omega) (by have:=hne hs;omega) (by unfold fT;rw[if_pos hs,hc,show op+1+1=op+2 by omega];rfl)
   cases h43:aX l (op+1) [43] with
   |true=>exact hy
   |
    false =>
    cases h45:aX l (op+1) [45] with
    |true=>exact hy
    |false=>rw[h43,h45] at hs;simp at hs
  have hn:=go [43] (op+1) (by omega) (by omega) (by unfold fT;rw[if_neg hs])
  simp only[not_or,Bool.not_eq_true] at hs;rw[hs.1,hs.2];exact hn
def NA:List gJ:=(135,Y0 fAl [])::NO
theorem Wx:bS X0 cg NA:=.cons Za Ww
end
end Go.Proofs.YtpaddkkfefgkfaaGreatDoor.ps

namespace Go.Proofs.YtpaddkkfefgkfaaGreatDoor.ps
open Go.Tv Go.Ev Go.Px Go.Pp Go.Proofs.YtpaddkkfefgkfaaGreatDoor.ex
set_option maxRecDepth 100000
noncomputable section
abbrev QU:=Raw×Int×Int×Int
abbrev fQ:Tv.Ty:=.pair (.int .i64) (.pair (.pair (.int .i64) (.int .i64)) (.pair (.pair (.pair (.int .i64) (.int .i64)) (.pair (.pair (.int .i64) (.int .i64)) (.pair (.int .i64) (.pair (.int .i64) (.int .i64))))) (.pair (.sl bB) .bool)))
def xG:Raw:=(0,(0,0),((0,0),(0,0),0,0,0),[],false)
def bW (e f:Int):QU:=(xG,0,e,f)
def GA (r:Raw):List AV:=[.int .i64 r.1,.int .i64 r.2.1.1,.int .i64 r.2.1.2,.int .i64 r.2.2.1.1.1,.int .i64 r.2.2.1.1.2,.int .i64 r.2.2.1.2.1.1,.int .i64 r.2.2.1.2.1.2,.int .i64 r.2.2.1.2.2.1,.int .i64 r.2.2.1.2.2.2.1,.int .i64 r.2.2.1.2.2.2.2,.bF bB r.2.2.2.1,.bool r.2.2.2.2]
def Ux (r:QU):List AV:=[.agg (GA r.1),.int .i64 r.2.1,.agg [.int .i64 r.2.2.1,.int .i64 r.2.2.2]]
abbrev lG:=Option (List AV)
def jr (r:QU):lG:=some (Ux r)
def sgR:List (List (Option Tv.Ty)):=[[none,none,none,none,none,none,none,none,none,none,some bB,none],[none],[none,none]]
def ad8 (p:List Nd×Int×Int×Int) (sz:Int):QU:=((2,(0,0),((8,0),(0,0),0,0,sz),p.1,true),p.2.1+1,0,0)
def Uy (s:TS) (sz en:Int) (x:List Nd):QU:=((2,(0,0),((s.bc,s.bn),(s.ic,s.ix),s.sc,0,sz),x,false),en+1,0,0)
def KR:TS:=⟨0,0,0,0,0,[]⟩
def xH (l:List Tok) (op en sz:Int) (o:jx):QU :=
 if o.1=false then bW o.2.1 o.2.2.1
 else if o.2.2.2.put=[] then (if Ba o.2.2.2.bc o.2.2.2.bn o.2.2.2.ic o.2.2.2.ix o.2.2.2.sc 0 sz=0 then Uy o.2.2.2 sz en [] else bW 2 op)
 else if (ai o.2.2.2.put 0).2.2.1≠0 then bW (ai o.2.2.2.put 0).2.2.1 op
 else if (ai o.2.2.2.put 0).2.1<o.2.2.2.put.length then bW 4 op
 else if Ba o.2.2.2.bc o.2.2.2.bn o.2.2.2.ic o.2.2.2.ix o.2.2.2.sc 0 sz=0 then Uy o.2.2.2 sz en (ai o.2.2.2.put 0).1 else bW 2 op
def gp (l:List Tok) (op sz:Int):QU :=
 if kM ((at? l (op+1)).getD QF) [114,101,108]=true then
  if (ai l (op+2)).2.2.1≠0 then bW (ai l (op+2)).2.2.1 (ai l (op+2)).2.2.2
  else if aX l (ai l (op+2)).2.1 [93]=true then ad8 (ai l (op+2)) sz else bW 4 (ai l (op+2)).2.1
 else match fK l (op+1) with
  |none=>bW 4 l.length
  |some en=>xH l op en sz (fT l op en KR)
def flP (o:jx) (e op:Int):lG:=pick2 (eqI o.2.1 0) (jr (bW e op)) (jr (bW o.2.1 o.2.2.1))
def ckP (l:List Tok) (op en sz:Int) (o:jx) (x:List Nd):lG :=
 pick2 (!eqI (Ba o.2.2.2.bc o.2.2.2.bn o.2.2.2.ic o.2.2.2.ix o.2.2.2.sc 0 sz) 0) (flP o 2 op) (jr ((2,(0,0),((o.2.2.2.bc,o.2.2.2.bn),(o.2.2.2.ic,o.2.2.2.ix),o.2.2.2.sc,0,sz),x,false),IntKind.wrap .i64 (en+1),0,0))
def zX (l:List Tok) (op en sz:Int) (o:jx):lG :=
 pick2 (!o.1) (jr (bW o.2.1 o.2.2.1)) (pick2 (eqI o.2.2.2.put.length 0) (ckP l op en sz o [])
  (pick2 (Nat.ble o.2.2.2.put.length 1000000) (pick2 (!eqI (ai o.2.2.2.put 0).2.2.1 0) (flP o (ai o.2.2.2.put 0).2.2.1 op)
   (pick2 (ltI (ai o.2.2.2.put 0).2.1 o.2.2.2.put.length) (flP o 4 op) (ckP l op en sz o (ai o.2.2.2.put 0).1))) none))
def alB (l:List Tok) (op en:Int):Bool:=Nat.ble l.length 200000 && !ltI op 0 && !ltI en (op+1)&&ltI en l.length&&true&&aX l en [93]
def plT (l:List Tok) (op sz:Int):lG :=
 (λrel cl:lG=>pick2 (ltI (IntKind.wrap .i64 (op+1)) l.length) (Option.rec (motive:=λ_=>lG) none (λy=>pick2 (kM y [114,101,108]) rel cl) (aI l (IntKind.wrap .i64 (op+1)))) cl)
  (pick2 (Nat.ble l.length 1000000) (pick2 (!eqI (ai l (IntKind.wrap .i64 (op+2))).2.2.1 0) (jr (bW (ai l (IntKind.wrap .i64 (op+2))).2.2.1 (ai l (IntKind.wrap .i64 (op+2))).2.2.2))
   (pick2 (!ltI (ai l (IntKind.wrap .i64 (op+2))).2.1 0) (pick2 (!aX l (ai l (IntKind.wrap .i64 (op+2))).2.1 [93]) (jr (bW 4 (ai l (IntKind.wrap .i64 (op+2))).2.1))
    (jr ((2,(0,0),((8,0),(0,0),0,0,sz),(ai l (IntKind.wrap .i64 (op+2))).1,true),IntKind.wrap .i64 ((ai l (IntKind.wrap .i64 (op+2))).2.1+1),0,0))) none)) none)
  (pick2 (Nat.ble l.length 1000000 && !ltI (IntKind.wrap .i64 (op+1)) 0 && !ltI l.length (IntKind.wrap .i64 (op+1))) (pick2 (!(fK l (IntKind.wrap .i64 (op+1))).isSome) (jr (bW 4 l.length))
   (pick2 (alB l op ((fK l (IntKind.wrap .i64 (op+1))).getD 0)&&true&&true) (zX l op ((fK l (IntKind.wrap .i64 (op+1))).getD 0) sz (fT l op ((fK l (IntKind.wrap .i64 (op+1))).getD 0) KR)) none)) none)
theorem Uz (l:List Tok) (op sz:Int):ag X0 (cN P2 NA _) bV 5 92 [.bF aC l,.int .i64 op,.int .i64 sz] aa.empty (gM sgR)=plT l op sz:=by kernel_rfl
theorem Cv {e:Int}:∀(r:List Tok) (a d:Int),jR r a d=some e->a<=e/\e<a+r.length/\∃c,at? r (e-a)=some c/\jw c [93]=true
 |[],a,d,h=>by cases h
 |
  t::r,a,d,h=>by
  have step:∀d',jR r (a+1) d'=some e->a<=e/\e<a+(t::r).length/\∃c,at? (t::r) (e-a)=some c/\jw c [93]=true:=λd' h=>by
   obtain ⟨h1,h2,c,h3,h4⟩:=Cv r (a+1) d' h;refine ⟨by omega,by simp;omega,c,?_,h4⟩
   obtain ⟨k,hk⟩:∃k:Nat,e-(a+1)=k:=⟨(e-(a+1)).toNat,by omega⟩
   rw[show e-a=((k+1:Nat):Int) by omega]
   rw[hk] at h3;exact h3
  unfold jR at h;split at h
  .
   exact step _ h
  split at h
  .
   exact step _ h
  split at h
  .
   rename_i hc;cases h;refine ⟨Int.le_refl _,by simp;omega,t,?_,hc.2⟩
   rw[Int.sub_self];rfl
  exact step _ h
theorem vY {l:List Tok} {a e:Int} (h0:0<=a) (h1:a<=l.length) (h:fK l a=some e):a<=e/\e<l.length/\aX l e [93]=true:=by
 obtain ⟨k1,k2,c,k3,k4⟩:=Cv _ _ _ h
 rw[List.length_drop] at k2
 refine ⟨k1,by omega,?_⟩
 have:at? l e=some c:=by
  obtain ⟨n,hn⟩:∃n:Nat,e-a=n:=⟨(e-a).toNat,by omega⟩
  rw[hn] at k3;have k3:(l.drop a.toNat)[n]? = some c:=k3;rw[List.getElem?_drop] at k3;rw[show e=((a.toNat+n:Nat):Int) by omega]
  exact k3
 unfold aX
 rw[this];exact k4
theorem oo {l:List Tok} {a:Int} (h:(ai l a).2.2.1=0):a<(ai l a).2.1/\(ai l a).2.1<=l.length:=by
 obtain ⟨⟨y,e,f,g⟩,hr⟩:=mD (nm:=ay) l a
 have e1:ai l a=(y,e,f,g):=by unfold ai;rw[hr];rfl
 rw[e1] at h ⊢
 exact ((uw hr).2 h).2
theorem D2 {l:List Tok} {en:Int}:∀(m:Nat) (sg:List UInt8) (a:Int) (s:TS) (o:jx),iK rp l en m sg a s=some o->o.1=true->o.2.1=0/\o.2.2.1=0
 |0,_,_,_,_,h,_=>by cases h
 |
  m+1,sg,a,s,o,h,ho=>by
  unfold Pp.iK at h;split at h
  .
   split at h
   .
    cases h;exact ⟨rfl,rfl⟩
   split at h
   .
    exact D2 m _ _ _ o h ho
   cases h
  cases h;cases ho
theorem KS {l:List Tok} {op en:Int} {s:TS} (h:(fT l op en s).1=true):(fT l op en s).2.1=0/\(fT l op en s).2.2.1=0:=by
 have key:∀r:Option jx,(∀o,r=some o->o.1=true->o.2.1=0/\o.2.2.1=0)->(r.getD (eS s 0 0)).1=true->(r.getD (eS s 0 0)).2.1=0/\(r.getD (eS s 0 0)).2.2.1=0:=λr h1 h2=>by
  cases r with
  |none=>cases h2
  |some o=>exact h1 o rfl h2
 unfold fT at h ⊢
 refine key _ (λo ho=>?_) h
 split at ho
 .
  exact D2 _ _ _ _ o ho
 exact D2 _ _ _ _ o ho
theorem z9 {l:List Tok} {en:Int} (hel:en<l.length):∀(m:Nat) (sg:List UInt8) (a:Int) (s:TS) (o:jx),0<=a->a<=en->(s.put.length:Int)<=4*a->iK rp l en m sg a s=some o->(o.2.2.2.put.length:Int)<=4*en+4
 |0,_,_,_,_,_,_,_,h=>by cases h
 |
  m+1,sg,a,s,o,h0,h1,h2,h=>by
  obtain ⟨b1,b2⟩:=uB (l:=l) (a:=a) (e:=en) h0 h1 (by omega)
  have hput:=Gz (l:=l) (sg:=sg) (a:=a) (b:=bR l a en) (s:=s) h0 b1;unfold Pp.iK at h;split at h
  .
   rename_i s' hs;rw[hs] at hput;simp only at hput;split at h
   .
    cases h;show (s'.put.length:Int)<=_;omega
   split at h
   .
    exact z9 hel m _ _ _ o (by omega) (by omega) (by omega) h
   cases h
  rename_i x f s' hs;rw[hs] at hput;cases h;show (s'.put.length:Int)<=_;simp only at hput;omega
theorem QV {l:List Tok} {op en:Int} {s:TS} (h0:0<=op) (h1:op+1<=en) (h2:en<l.length) (hs:s.put=[]) (hc:aX l en [93]=true):((fT l op en s).2.2.2.put.length:Int)<=4*en+4:=by
 obtain ⟨ce,hce,SE⟩:=dR hc
 have key:∀r:Option jx,(∀o,r=some o->(o.2.2.2.put.length:Int)<=4*en+4)->((r.getD (eS s 0 0)).2.2.2.put.length:Int)<=4*en+4:=λr h=>by
  cases r with
  |none=>show (s.put.length:Int)<=_;rw[hs];show (0:Int)<=_;omega
  |some o=>exact h o rfl
 unfold fT
 refine key _ λo ho=>?_
 split at ho
 .
  rename_i Zb
  have:op+2<=en:=by
   by_cases he:en=op+1
   .
    exfalso;rw[he] at hce;rcases Zb with h|h<;>(obtain ⟨c2,k1,k2⟩:=dR h;rw[hce] at k1;cases k1;rw[z8 SE (by decide)] at k2;cases k2)
   omega
  exact z9 h2 _ _ _ _ o (by omega) this (by rw[hs];show (0:Int)<=_;omega) ho
 exact z9 h2 _ _ _ _ o (by omega) h1 (by rw[hs];show (0:Int)<=_;omega) ho
theorem UA {l:List Tok} {op en sz:Int} {o:jx} (hok:o.1=true->o.2.1=0/\o.2.2.1=0) (hp:o.2.2.2.put.length<=1000000) (he:0<=en) (he2:en<=1000000):zX l op en sz o=jr (xH l op en sz o):=by
 unfold zX xH
 cases ho:o.1 with
 |false=>rfl
 |
  true =>
  obtain ⟨h1,h2⟩:=hok ho;have hfl:∀e,flP o e op=jr (bW e op):=λe=>by unfold flP;rw[h1];rfl
  have hck:∀x,ckP l op en sz o x=jr (if Ba o.2.2.2.bc o.2.2.2.bn o.2.2.2.ic o.2.2.2.ix o.2.2.2.sc 0 sz=0 then Uy o.2.2.2 sz en x else bW 2 op):=λx=>by
   unfold ckP;rw[aG,hfl,i64_in (n:=en+1) (by omega) (by omega)]
   split<;>rfl
  show pick2 (eqI o.2.2.2.put.length 0) _ _=_;rw[hck,hck,hfl,hfl,aB,aG,aW,bO hp,if_neg (show ¬true=false by decide)]
  by_cases hz:o.2.2.2.put=[]
  .
   rw[if_pos (by rw[hz];rfl),if_pos hz]
  rw[if_neg (by have:0<o.2.2.2.put.length:=List.length_pos_iff.2 hz;omega),if_neg hz]
  show ite _ _ _=_;by_cases h3:(ai o.2.2.2.put 0).2.2.1=0
  .
   rw[if_pos h3,if_neg (show ¬(ai o.2.2.2.put 0).2.2.1≠0 from λh=>h h3)]
   split<;>rfl
  rw[if_neg h3,if_pos h3]
theorem Zc {l:List Tok} {op sz:Int} (hl:l.length<=200000) (h0:0<=op) (h1:op<l.length):plT l op sz=jr (gp l op sz):=by
 unfold plT gp
 simp only
 rw[i64_in (n:=op+1) (by omega) (by omega),i64_in (n:=op+2) (by omega) (by omega),bO (show l.length<=1000000 by omega),cF (show (0:Int)<=op+1 by omega),cF (show op+1<=(l.length:Int) by omega)]
 have ia:pick2 (true && !false && !false) (pick2 (!(fK l (op+1)).isSome) (jr (bW 4 l.length))
  (pick2 (alB l op ((fK l (op+1)).getD 0)&&true&&true) (zX l op ((fK l (op+1)).getD 0) sz (fT l op ((fK l (op+1)).getD 0) KR)) none)) none=jr (match fK l (op+1) with
  |none=>bW 4 l.length
  |some en=>xH l op en sz (fT l op en KR)):=by
  cases hc:fK l (op+1) with
  |none=>rfl
  |
   some en =>
   obtain ⟨c1,c2,c3⟩:=vY (by omega) (by omega) hc
   have hal:alB l op en=true:=by
    unfold alB;rw[bO hl,cF h0,cF (show op+1<=en by omega),kW c2,c3];rfl
   show pick2 (alB l op en&&true&&true) _ _=_;rw[hal];show zX l op en sz (fT l op en KR)=_;exact UA KS (by have:=QV (s:=KR) h0 c1 c2 rfl c3;omega) (by omega) (by omega)
 rw[ia]
 have hrel:pick2 true (pick2 (!eqI (ai l (op+2)).2.2.1 0) (jr (bW (ai l (op+2)).2.2.1 (ai l (op+2)).2.2.2))
  (pick2 (!ltI (ai l (op+2)).2.1 0) (pick2 (!aX l (ai l (op+2)).2.1 [93]) (jr (bW 4 (ai l (op+2)).2.1))
   (jr ((2,(0,0),((8,0),(0,0),0,0,sz),(ai l (op+2)).1,true),IntKind.wrap .i64 ((ai l (op+2)).2.1+1),0,0))) none)) none=jr (if (ai l (op+2)).2.2.1≠0 then bW (ai l (op+2)).2.2.1 (ai l (op+2)).2.2.2
  else if aX l (ai l (op+2)).2.1 [93]=true then ad8 (ai l (op+2)) sz else bW 4 (ai l (op+2)).2.1):=by
  show pick2 (!eqI (ai l (op+2)).2.2.1 0) _ _=_;rw[aG];by_cases h3:(ai l (op+2)).2.2.1=0
  .
   obtain ⟨q1,q2⟩:=oo h3;rw[if_pos h3,if_neg (show ¬(ai l (op+2)).2.2.1≠0 from λh=>h h3),cF (by omega),i64_in (n:=(ai l (op+2)).2.1+1) (by omega) (by omega)]
   cases aX l (ai l (op+2)).2.1 [93]<;>rfl
  rw[if_neg h3,if_pos h3]
 rw[hrel,getI_at?,aW]
 cases cH:at? l (op+1) with
 |
  none =>
  have:=dA (by omega) cH
  rw[if_neg (by omega)];rfl
 |
  some y =>
  rw[if_pos (dm cH).2];show pick2 (kM y [114,101,108]) _ _=jr (if kM y [114,101,108]=true then _ else _);cases kM y [114,101,108]<;>rfl
def gV (f:List AV->Option (Bool×List AV)) (ins:List bu):Option (Bool×List bu×List bu) :=
 match Aa ins with
 |
  some vs=>match f vs with
  |some (c,ws)=>some (c,[],ws.map .val)
  |none=>none
 |none=>none
where Aa:List bu->Option (List AV)
 |[]=>some []
 |
  .val v::l=>match Aa l with
  |some vs=>some (v::vs)
  |none=>none
 |.list _ _ _::_=>none
theorem nr:∀{ins:List bu} {vs:List AV},gV.Aa ins=some vs->ins=vs.map .val
 |[],vs,h=>by cases h;rfl
 |
  .val v::l,vs,h=>by
  unfold gV.Aa at h;split at h
  .
   rename_i vs' h1;cases h;rw[nr h1];rfl
  cases h
 |.list _ _ _::_,_,h=>by cases h
theorem sZ:∀(l:List AV) (M:aa),aK M (l.map .val)=M
 |[],_=>rfl
 |_::l,M=>sZ l M
theorem Ab {id:FuncId} (hk:lt.inl id=true) {M:List nY} {N:List gJ} (hM:cr X0 cg M) (hN:bS X0 cg N) {sig:List (Option (TypeId×Tv.Ty))} {f:List AV->Option (Bool×List AV)} (sg:List (List (Option Tv.Ty)))
 (h:∀vs ws,f vs=some (true,ws)->ws.all A8=true/\∃an rounds,ag X0 (cN M N _) an rounds id vs aa.empty (gM sg)=some ws):bh X0 cg id ⟨none,sig,gV f⟩ :=
 QG (nk hk) (cV hM hN) sg λins outs rs hg=>by
  unfold gV at hg;split at hg
  case h_2=>cases hg
  rename_i vs hv;split at hg
  case h_2=>cases hg
  rename_i c ws hf;simp only[Option.some.injEq,Prod.mk.injEq] at hg;obtain ⟨rfl,_,rfl⟩:=hg;obtain ⟨h1,an,rounds,h2⟩:=h vs ws hf;have hi:=nr hv;subst hi;refine ⟨an,rounds,ws,?_,rfl,h1⟩;rw[oS,sZ];exact h2
def fPl (args:List AV):Option (Bool×List AV) :=
 match args with
 |
  [L,.int .i64 op,.int .i64 sz]=>match sM aC L with
  |some l=>some (Nat.ble l.length 200000 && !ltI op 0&&ltI op l.length,Ux (gp l op sz))
  |none=>none
 |_=>none
theorem KU (r:QU):(Ux r).all A8=true:=rfl
theorem Zd:bh X0 cg 92 ⟨none,[none,none,none],gV fPl⟩ :=
 Ab rfl xh Wx sgR λvs ws hf=>by
  unfold fPl at hf;split at hf
  case h_2=>cases hf
  rename_i L op sz;split at hf
  case h_2=>cases hf
  rename_i l hl;simp only[Option.some.injEq,Prod.mk.injEq,Bool.and_eq_true,Bool.not_eq_true'] at hf;obtain ⟨⟨⟨g0,g1⟩,g2⟩,rfl⟩:=hf;have g0:=Nat.le_of_ble_eq_true g0;have g1:=A9 g1;have g2:op<l.length:=by rw[ltI_spec] at g2;simpa using g2
  refine ⟨KU _,bV,5,?_⟩;rw[bq hl,Uz,Zc g0 g1 g2];rfl
def NP:List gJ:=(92,⟨none,[none,none,none],gV fPl⟩)::NA
theorem Wy:bS X0 cg NP:=.cons Zd Wx
end
end Go.Proofs.YtpaddkkfefgkfaaGreatDoor.ps

namespace Go.Proofs.YtpaddkkfefgkfaaGreatDoor.ps
open Go.Tv Go.Ev Go.Px Go.Pp Go.Proofs.YtpaddkkfefgkfaaGreatDoor.ex
set_option maxRecDepth 100000
noncomputable section
def uC (p:List Nd×Int×Int×Int):QU:=if p.2.2.1≠0 then bW p.2.2.1 p.2.2.2 else ((3,(0,0),((0,0),(0,0),0,0,0),p.1,false),p.2.1,0,0)
def aeb (r:Rg) (a:Int):QU:=((1,r,((0,0),(0,0),0,0,0),[],false),a+1,0,0)
def au (l:List Tok) (a:Int):QU :=
 if a<0\/(l.length:Int)<a then bW 2 0 else
 match at? l a with
 |none=>uC (ai l a)
 |
  some t=>match jU rp t with
  |some r=>aeb r a
  |
   none=>if 0<(jq t).1 then (if aX l (a+1) [91]=true then gp l (a+1) (jq t).1 else bW 4 (a+1))
   else if aX l a [91]=true then gp l a 0 else uC (ai l a)
def UB (l:List Tok) (a:Int):lG:=pick2 (Nat.ble l.length 1000000) (pick2 (!eqI (ai l a).2.2.1 0) (jr (bW (ai l a).2.2.1 (ai l a).2.2.2)) (jr ((3,(0,0),((0,0),(0,0),0,0,0),(ai l a).1,false),(ai l a).2.1,0,0))) none
def plB (l:List Tok) (a:Int):Bool:=Nat.ble l.length 200000 && !ltI a 0&&ltI a l.length
def Nq (l:List Tok) (a:Int):lG :=
 pick2 (ltI a 0) (jr (bW 2 0)) (pick2 (ltI l.length a) (jr (bW 2 0)) (pick2 (ltI a l.length) (Option.rec (motive:=λ_=>lG) none (λt=>pick2 (jU rp t).isSome
  (jr ((1,(jU rp t).getD (0,0),((0,0),(0,0),0,0,0),[],false),IntKind.wrap .i64 (a+1),0,0))
  (Option.rec (motive:=λ_=>lG) none (λt=>pick2 (ltI 0 (jq t).1)
   (pick2 (!ltI (IntKind.wrap .i64 (a+1)) 0) (pick2 (!aX l (IntKind.wrap .i64 (a+1)) [91]) (jr (bW 4 (IntKind.wrap .i64 (a+1)))) (pick2 (plB l (IntKind.wrap .i64 (a+1))) (jr (gp l (IntKind.wrap .i64 (a+1)) (jq t).1)) none)) none)
   (pick2 (!ltI a 0) (pick2 (aX l a [91]) (pick2 (plB l a) (jr (gp l a 0)) none) (UB l a)) none)) (aI l a))) (aI l a)) (UB l a)))
theorem UC (l:List Tok) (a:Int):ag X0 (cN P2 NP _) bV 5 52 [.bF aC l,.int .i64 a] aa.empty (gM sgR)=Nq l a:=by kernel_rfl
theorem UD {l:List Tok} {a:Int} (hl:l.length<=200000):UB l a=jr (uC (ai l a)):=by
 unfold UB uC
 rw[bO (show l.length<=1000000 by omega)]
 show pick2 (!eqI (ai l a).2.2.1 0) _ _=_
 rw[aG]
 by_cases h:(ai l a).2.2.1=0
 .
  rw[if_pos h,if_neg (show ¬(ai l a).2.2.1≠0 from λq=>q h)]
 rw[if_neg h,if_pos h]
theorem Ze {l:List Tok} {a:Int} (hl:l.length<=200000):Nq l a=jr (au l a):=by
 unfold Nq au
 rw[aW,aW,aW,UD hl]
 by_cases h0:a<0
 .
  rw[if_pos h0,if_pos (.inl h0)]
 rw[if_neg h0]
 by_cases h1:(l.length:Int)<a
 .
  rw[if_pos h1,if_pos (.inr h1)]
 rw[if_neg h1,if_neg (show ¬(a<0\/(l.length:Int)<a) by omega),getI_at?]
 cases cH:at? l a with
 |
  none =>
  have:=dA (by omega) cH
  rw[if_neg (by omega)]
 |
  some t =>
  have hlt:=(dm cH).2;rw[if_pos hlt];simp only;rw[i64_in (n:=a+1) (by omega) (by omega),cF (show (0:Int)<=a+1 by omega),cF (show (0:Int)<=a by omega)]
  cases hr:jU rp t with
  |some r=>rfl
  |
   none =>
   show pick2 (ltI 0 (jq t).1) _ _=_;rw[aW];simp only;by_cases hw:0<(jq t).1
   .
    rw[if_pos hw,if_pos hw];cases hs:aX l (a+1) [91] with
    |false=>rfl
    |
     true =>
     obtain ⟨c,hc,_⟩:=dR hs;have:=(dm hc).2;show pick2 (plB l (a+1)) _ _=_;unfold plB;rw[bO hl,cF (show (0:Int)<=a+1 by omega),kW this];rfl
   rw[if_neg hw,if_neg hw];show pick2 (aX l a [91]) _ _=_;cases hs:aX l a [91] with
   |false=>rfl
   |
    true =>
    show pick2 (plB l a) _ _=_;unfold plB;rw[bO hl,cF (show (0:Int)<=a by omega),kW hlt];rfl
def fOp (args:List AV):Option (Bool×List AV) :=
 match args with
 |
  [L,.int .i64 a]=>match sM aC L with
  |some l=>some (Nat.ble l.length 200000,Ux (au l a))
  |none=>none
 |_=>none
theorem Zf:bh X0 cg 52 ⟨none,[none,none],gV fOp⟩ :=
 Ab rfl xh Wy sgR λvs ws hf=>by
  unfold fOp at hf;split at hf
  case h_2=>cases hf
  rename_i L a;split at hf
  case h_2=>cases hf
  rename_i l hl;simp only[Option.some.injEq,Prod.mk.injEq] at hf;obtain ⟨g0,rfl⟩:=hf;have g0:=Nat.le_of_ble_eq_true g0;refine ⟨KU _,bV,5,?_⟩;rw[bq hl,UC,Ze g0];rfl
def NQ:List gJ:=(52,⟨none,[none,none],gV fOp⟩)::NP
theorem Wz:bS X0 cg NQ:=.cons Zf Wy
abbrev D3:=Int×Int×List Raw×Int×Int
def aec (c:D3):List AV:=[.agg [.int .i64 c.1,.int .i64 c.2.1,.bF fQ c.2.2.1],.agg [.int .i64 c.2.2.2.1,.int .i64 c.2.2.2.2]]
def oq (c:D3):lG:=some (aec c)
def Hp (e f:Int):D3:=(0,0,[],e,f)
def sgC:List (List (Option Tv.Ty)):=[[none,none,some fQ],[none,none]]
def pCm:List Bool:=[true,true,true,true,true,true,true,true,false]
def UE:bG:=⟨dG [0,4,5,6,8,9] pCm,.none,[]⟩
def fCm (l:List Tok) (op a:Int):cj:=hU 115 [(0,.bF aC l),(4,.ptr 0 0),(5,.ptr 1 0),(6,.int .i64 op),(8,.ptr 2 0),(9,.int .i64 a)]
def mCm (op hint:Int) (arg:AV) (rows:List Row):aa:=kC ([.cells 34 [.int .i64 0,.int .i64 0,.bK],.cells 56 [.int .i64 0,.int .i64 0],.cells 34 [.int .i64 op,.int .i64 hint,arg]]++rows)
def QW (l:List Tok) (op hint:Int) (r m:Nat) (a:Int):lG:=dH X0 (cN P2 NQ _) UE r 41 pCm (gM sgC) m (fCm l op a) (mCm op hint .bK [])
def jCm (l:List Tok) (op hint:Int) (r m:Nat) (n:Nat) (a:Int) (args:List Raw):lG:=dH X0 (cN P2 NQ _) UE r 41 pCm (gM sgC) m (fCm l op a) (mCm op hint (.own 3 n) [.list 99 fQ args 0 false false])
def D4 (l:List Tok) (op hint:Int) (J:Nat->Int->List Raw->lG) (a:Int) (args:List Raw):lG :=
 (λX:Raw->lG=>pick2 (Nat.ble l.length 200000) (pick2 (!eqI (au l a).2.2.1 0) (oq (Hp (au l a).2.2.1 (au l a).2.2.2))
  (pick2 (eqI (au l a).1.1 3) (pick2 (ng op) (X (4,(au l a).1.2)) (X (au l a).1)) (X (au l a).1))) none)
 (λraw=>pick2 (Nat.ble (args.length+1) 1000000) (pick2 (eqI (au l a).2.1 l.length) (oq (op,hint,args++[raw],0,0))
  (pick2 (!ltI (au l a).2.1 0) (pick2 (!aX l (au l a).2.1 [44]) (oq (Hp 4 (au l a).2.1)) (pick2 (eqI ((args.length+1:Nat):Int) 4) (oq (Hp 3 (au l a).2.1))
   (J (args.length+1) (IntKind.wrap .i64 ((au l a).2.1+1)) (args++[raw])))) none)) none)
theorem UF (l:List Tok) (op hint:Int) (r m:Nat) (a:Int):QW l op hint r (m+1) a=D4 l op hint (λn a args=>jCm l op hint r m n a args) a []:=by kernel_rfl
theorem Zg (l:List Tok) (op hint:Int) (r m n:Nat) (a:Int) (args:List Raw):jCm l op hint r (m+1) n a args=D4 l op hint (λn a args=>jCm l op hint r m n a args) a args:=by kernel_rfl
def cmT (l:List Tok) (a:Int) (J:Int->Int->Int->lG):lG :=
 pick2 (ltI a 0) (oq (Hp 2 0)) (pick2 (ltI l.length a) (oq (Hp 2 0)) (pick2 (!ltI a 0) (pick2 (!(Ew l a).2) (oq (Hp 6 a))
  ((
   λgo:Int->Int->lG=>pick2 (ltI (IntKind.wrap .i64 (a+1)) l.length) (Option.rec (motive:=λ_=>lG) none (λt=>pick2 (!eqI (jq t).2 0) (go (jq t).2 (IntKind.wrap .i64 (IntKind.wrap .i64 (a+1)+1))) (go 0 (IntKind.wrap .i64 (a+1)))) (aI l (IntKind.wrap .i64 (a+1)))) (go 0 (IntKind.wrap .i64 (a+1))))
   (λhint b=>pick2 (eqI b l.length) (oq ((Ew l a).1,hint,[],0,0)) (J (Ew l a).1 hint b)))) none))
theorem UG (l:List Tok) (a:Int) (r:Nat):ag X0 (cN P2 NQ _) UE r 41 [.bF aC l,.int .i64 a] aa.empty (gM sgC)=cmT l a (λop hint b=>QW l op hint r r b):=by kernel_rfl
def s6 (op:Int) (w:Raw):Raw:=if w.1=3/\ng op=true then (4,w.2) else w
def GB (l:List Tok) (op hint:Int):Nat->Int->List Raw->Option D3
 |0,_,_=>none
 |
  n+1,a,args =>
  if (au l a).2.2.1≠0 then some (Hp (au l a).2.2.1 (au l a).2.2.2)
  else if (au l a).2.1=l.length then some (op,hint,args++[s6 op (au l a).1],0,0)
  else if aX l (au l a).2.1 [44]=false then some (Hp 4 (au l a).2.1)
  else if args.length+1=4 then some (Hp 3 (au l a).2.1)
  else GB l op hint n ((au l a).2.1+1) (args++[s6 op (au l a).1])
def MG (l:List Tok) (op h a:Int):D3 :=
 if (if h=0 then a+1 else a+2)=(l.length:Int) then (op,h,[],0,0) else (GB l op h 5 (if h=0 then a+1 else a+2) []).getD (Hp 0 0)
def mF (l:List Tok) (a:Int):Int:=match at? l (a+1) with
 |some t=>(jq t).2
 |none=>0
def bE (l:List Tok) (a:Int):D3 :=
 if a<0\/(l.length:Int)<a then Hp 2 0
 else if (Ew l a).2=false then Hp 6 a
 else MG l (Ew l a).1 (mF l a) a
theorem nj {l:List Tok} {i:Int} (h0:0<=i) (h1:i<l.length):∃t,at? l i=some t:=by
 cases cH:at? l i with
 |some t=>exact ⟨t,rfl⟩
 |none=>have:=dA h0 cH;omega
theorem QX {l:List Tok} {sg:List UInt8} {a b:Int} {s:TS} (h0:0<=a) (hb:b<=l.length) (h:(fS rp l sg a b s).1=false):(fS rp l sg a b s).2.1≠0:=by
 have key:∀o:jx,(∃s e f,e≠0/\o=eS s e f)\/(∃s,o=okO s)->o.1=false->o.2.1≠0:=λo ho h=>by
  rcases ho with ⟨s,e,f,he,rfl⟩|⟨s,rfl⟩
  .
   exact he
  cases h
 have hal:∀r,(∃s' e f,e≠0/\fL sg r a s=eS s' e f)\/(∃s',fL sg r a s=okO s'):=λr=>by
  unfold fL;split
  .
   exact .inl ⟨_,_,_,by decide,rfl⟩
  split
  .
   exact .inr ⟨_,rfl⟩
  split
  .
   exact .inr ⟨_,rfl⟩
  exact .inl ⟨_,_,_,by decide,rfl⟩
 have hsc:∀r num n,(∃s' e f,e≠0/\cX sg r a num n s=eS s' e f)\/(∃s',cX sg r a num n s=okO s'):=λr num n=>by
  unfold cX;split
  .
   exact .inl ⟨_,_,_,by decide,rfl⟩
  split
  .
   exact .inr ⟨_,rfl⟩
  exact .inl ⟨_,_,_,by decide,rfl⟩
 refine key _ ?_ h
 unfold fS
 split
 .
  exact .inl ⟨_,_,_,by decide,rfl⟩
 split
 .
  obtain ⟨t,ht⟩:=nj (l:=l) (i:=a) h0 (by omega)
  rw[ht];simp only;split
  .
   exact hal _
  split
  .
   exact hal _
  exact .inr ⟨_,rfl⟩
 split
 .
  obtain ⟨t,ht⟩:=nj (l:=l) (i:=a) h0 (by omega)
  obtain ⟨u,hu⟩:=nj (l:=l) (i:=a+2) (by omega) (by omega)
  rw[ht,hu];simp only;split
  .
   split
   .
    exact hsc _ _ _
   split
   .
    exact hsc _ _ _
   exact .inr ⟨_,rfl⟩
  .
   split
   .
    exact hsc _ _ _
   exact .inr ⟨_,rfl⟩
  .
   split
   .
    exact hsc _ _ _
   exact .inr ⟨_,rfl⟩
  exact .inr ⟨_,rfl⟩
 exact .inr ⟨_,rfl⟩
theorem Ac {l:List Tok} {en:Int} (hel:en<l.length):∀(m:Nat) (sg:List UInt8) (a:Int) (s:TS) (o:jx),0<=a->a<=en->Pp.iK rp l en m sg a s=some o->o.1=false->o.2.1≠0
 |0,_,_,_,_,_,_,h,_=>by cases h
 |
  m+1,sg,a,s,o,h0,h1,h,ho=>by
  obtain ⟨b1,b2⟩:=uB (l:=l) (a:=a) (e:=en) h0 h1 (by omega)
  have hb:=QX (l:=l) (sg:=sg) (a:=a) (b:=bR l a en) (s:=s) h0 (by omega)
  unfold Pp.iK at h;split at h
  .
   split at h
   .
    cases h;cases ho
   split at h
   .
    exact Ac hel m _ _ _ o (by omega) (by omega) h ho
   cases h
  rename_i x f s' hs;cases h;rw[hs] at hb;exact hb rfl
theorem QZ {l:List Tok} {op en:Int} {s:TS} (hl:l.length<=200000) (hs:s.put=[]) (h0:0<=op) (h1:op+1<=en) (h2:en<l.length) (hc:aX l en [93]=true) (h:(fT l op en s).1=false):(fT l op en s).2.1≠0:=by
 obtain ⟨ce,hce,SE⟩:=dR hc
 have key:∀r:Option jx,(∃o,r=some o)->(∀o,r=some o->o.1=false->o.2.1≠0)->(r.getD (eS s 0 0)).1=false->(r.getD (eS s 0 0)).2.1≠0:=λr ⟨o,ho⟩ h1 h2=>by
  subst ho;exact h1 o rfl h2
 have hput:∀a:Int,0<=a->(s.put.length:Int)<=4*a:=λa h=>by rw[hs];show (0:Int)<=_;omega
 unfold fT at h ⊢
 refine key _ ?_ (λo ho=>?_) h
 .
  split
  .
   rename_i Zb
   have:op+2<=en:=by
    by_cases he:en=op+1
    .
     exfalso;rw[he] at hce;rcases Zb with h|h<;>(obtain ⟨c2,k1,k2⟩:=dR h;rw[hce] at k1;cases k1;rw[z8 SE (by decide)] at k2;cases k2)
    omega
   obtain ⟨o,h3,_⟩:=D1 (l:=l) (op:=op) (en:=en) (sz:=0) (r:=0) hl h2 (l.length+1) ((at? l (op+1)).getD QF).2.2.1 (op+2) s (by omega) this (hput _ (by omega)) (by omega)
   exact ⟨o,h3⟩
  obtain ⟨o,h3,_⟩:=D1 (l:=l) (op:=op) (en:=en) (sz:=0) (r:=0) hl h2 (l.length+1) [43] (op+1) s (by omega) h1 (hput _ (by omega)) (by omega)
  exact ⟨o,h3⟩
 split at ho
 .
  rename_i Zb
  have:op+2<=en:=by
   by_cases he:en=op+1
   .
    exfalso;rw[he] at hce;rcases Zb with h|h<;>(obtain ⟨c2,k1,k2⟩:=dR h;rw[hce] at k1;cases k1;rw[z8 SE (by decide)] at k2;cases k2)
   omega
  exact Ac h2 _ _ _ _ o (by omega) this ho
 exact Ac h2 _ _ _ _ o (by omega) h1 ho
theorem Cw {l:List Tok} {op sz:Int} (hl:l.length<=200000) (h0:0<=op) (h1:op<l.length) (h:(gp l op sz).2.2.1=0):op<(gp l op sz).2.1/\(gp l op sz).2.1<=l.length:=by
 have hnone:∀e f,(bW e f).2.2.1=0->e=0:=λe f h=>h
 unfold gp at h ⊢
 split at h
 .
  rename_i hr;rw[if_pos hr];split at h
  .
   rename_i he;exact absurd h he
  rename_i he;have he:(ai l (op+2)).2.2.1=0:=Classical.not_not.1 he;obtain ⟨q1,q2⟩:=oo he;rw[if_neg (λq=>q he)]
  split at h
  .
   rename_i hs;rw[if_pos hs];obtain ⟨c,hc,_⟩:=dR hs;have:=(dm hc).2;show op<(ai l (op+2)).2.1+1/\(ai l (op+2)).2.1+1<=_;omega
  cases h
 rename_i hr
 rw[if_neg hr]
 split at h
 .
  cases h
 rename_i en hc
 obtain ⟨c1,c2,c3⟩:=vY (by omega) (by omega) hc
 have key:∀o,(∀b,o.1=b->b=true->o.2.1=0/\o.2.2.1=0)->(xH l op en sz o).2.2.1=0->(xH l op en sz o).2.1=en+1\/(o.1=false/\o.2.1=0):=λo _ h=>by
  unfold xH at h ⊢;split at h
  .
   rename_i ho;exact .inr ⟨ho,h⟩
  rename_i ho;rw[if_neg ho]
  left
  split at h
  .
   rename_i hp;rw[if_pos hp];split at h
   .
    rename_i hm;rw[if_pos hm];rfl
   cases h
  rename_i hp;rw[if_neg hp];split at h
  .
   rename_i he;exact absurd h he
  rename_i he;rw[if_neg he];split at h
  .
   cases h
  rename_i hq;rw[if_neg hq];split at h
  .
   rename_i hm;rw[if_pos hm];rfl
  cases h
 rcases key (fT l op en KR) (λb hb ht=>KS (hb.trans ht)) h with hk|⟨k1,k2⟩
 .
  show op<(xH l op en sz (fT l op en KR)).2.1/\(xH l op en sz (fT l op en KR)).2.1<=_;rw[hk];omega
 exact absurd k2 (QZ hl rfl h0 c1 c2 c3 k1)
theorem xk {l:List Tok} {a:Int} (hl:l.length<=200000) (h:(au l a).2.2.1=0):0<=a/\a<(au l a).2.1/\(au l a).2.1<=l.length:=by
 have Ad:(uC (ai l a)).2.2.1=0->a<(uC (ai l a)).2.1/\(uC (ai l a)).2.1<=l.length:=λh=>by
  unfold uC at h ⊢;split at h
  .
   rename_i he;exact absurd h he
  rename_i he;rw[if_neg he];exact oo (Classical.not_not.1 he)
 unfold au at h ⊢
 split at h
 .
  cases h
 rename_i h0
 rw[if_neg h0]
 refine ⟨by omega,?_⟩
 cases cH:at? l a with
 |none=>rw[cH] at h;exact Ad h
 |
  some t =>
  rw[cH] at h;have hlt:=(dm cH).2;simp only at h ⊢;cases hr:jU rp t with
  |some r=>show a<a+1/\a+1<=_;omega
  |
   none =>
   rw[hr] at h;simp only at h ⊢;split at h
   .
    rename_i hw;rw[if_pos hw];split at h
    .
     rename_i hs;rw[if_pos hs];obtain ⟨c,hc,_⟩:=dR hs;have:=(dm hc).2;have:=Cw hl (by omega) this h
     omega
    cases h
   rename_i hw;rw[if_neg hw];split at h
   .
    rename_i hs;rw[if_pos hs];exact Cw hl (by omega) hlt h
   rename_i hs;rw[if_neg hs];exact Ad h
theorem Cy {l:List Tok} {op hint:Int} (hl:l.length<=200000) {m:Nat} {J:Nat->Int->List Raw->lG} {a:Int} {args:List Raw} (hn:args.length<=3)
 (ih:∀b,args.length+1<=3->∃c,GB l op hint m b (args++[s6 op (au l a).1])=some c/\J (args.length+1) b (args++[s6 op (au l a).1])=oq c):∃c,GB l op hint (m+1) a args=some c/\D4 l op hint J a args=oq c:=by
 unfold D4
 simp only
 rw[bO hl,bO (show args.length+1<=1000000 by omega)]
 have JP:∀X:Raw->lG,(pick2 (eqI (au l a).1.1 3) (pick2 (ng op) (X (4,(au l a).1.2)) (X (au l a).1)) (X (au l a).1))=X (s6 op (au l a).1):=λX=>by
  rw[aB];unfold s6;by_cases h3:(au l a).1.1=3
  .
   rw[if_pos h3];cases ng op with
   |true=>rw[if_pos ⟨h3,rfl⟩]
   |false=>rw[if_neg (show ¬((au l a).1.1=3/\false=true) from λh=>by cases h.2)]
  rw[if_neg h3,if_neg (show ¬((au l a).1.1=3/\ng op=true) from λh=>h3 h.1)]
 have hX:=JP (λraw=>pick2 true (pick2 (eqI (au l a).2.1 l.length) (oq (op,hint,args++[raw],0,0))
  (pick2 (!ltI (au l a).2.1 0) (pick2 (!aX l (au l a).2.1 [44]) (oq (Hp 4 (au l a).2.1)) (pick2 (eqI ((args.length+1:Nat):Int) 4) (oq (Hp 3 (au l a).2.1))
   (J (args.length+1) (IntKind.wrap .i64 ((au l a).2.1+1)) (args++[raw])))) none)) none)
 refine (congrArg (λz=>∃c,GB l op hint (m+1) a args=some c/\pick2 true (pick2 (!eqI (au l a).2.2.1 0) (oq (Hp (au l a).2.2.1 (au l a).2.2.2)) z) none=oq c) hX).mpr ?_
 unfold GB
 show ∃c,_/\pick2 (!eqI (au l a).2.2.1 0) _ _=_
 rw[aG]
 by_cases he:(au l a).2.2.1=0
 .
  obtain ⟨q0,q1,q2⟩:=xk hl he;rw[if_pos he,if_neg (show ¬(au l a).2.2.1≠0 from λh=>h he)]
  show ∃c,_/\pick2 (eqI (au l a).2.1 l.length) _ _=_;rw[aB];by_cases h1:(au l a).2.1=l.length
  .
   rw[if_pos h1,if_pos h1];exact ⟨_,rfl,rfl⟩
  rw[if_neg h1,if_neg h1,cF (by omega),i64_in (n:=(au l a).2.1+1) (by omega) (by omega)]
  show ∃c,_/\pick2 (!aX l (au l a).2.1 [44]) _ _=_;cases aX l (au l a).2.1 [44] with
  |false=>exact ⟨_,rfl,rfl⟩
  |
   true =>
   rw[if_neg (show ¬true=false by decide)]
   show ∃c,_/\pick2 (eqI ((args.length+1:Nat):Int) 4) _ _=_;rw[aB];by_cases h4:args.length+1=4
   .
    rw[if_pos h4,if_pos (by omega)];exact ⟨_,rfl,rfl⟩
   rw[if_neg h4,if_neg (by omega)]
   exact ih _ (by omega)
 rw[if_neg he,if_pos he];exact ⟨_,rfl,rfl⟩
theorem Q0 {l:List Tok} {op hint:Int} (hl:l.length<=200000) {r:Nat}:∀(m:Nat) (a:Int) (args:List Raw),args.length<=3->4<=args.length+m->∃c,GB l op hint m a args=some c/\jCm l op hint r m args.length a args=oq c
 |0,a,args,h1,h2=>by omega
 |
  m+1,a,args,h1,h2=>by
  rw[Zg];refine Cy hl h1 λb hb=>?_
  have:=Q0 (op:=op) (hint:=hint) hl (r:=r) m b (args++[s6 op (au l a).1]) (by simp;omega) (by simp;omega)
  rw[show (args++[s6 op (au l a).1]).length=args.length+1 by simp] at this
  exact this
theorem UH {l:List Tok} {op hint:Int} (hl:l.length<=200000) {r:Nat} (a:Int):QW l op hint r 5 a=oq ((GB l op hint 5 a []).getD (Hp 0 0)):=by
 rw[UF]
 obtain ⟨c,h1,h2⟩:=Cy (l:=l) (op:=op) (hint:=hint) hl (m:=4) (J:=λn a args=>jCm l op hint r 4 n a args) (a:=a) (args:=[]) (by simp) λb hb=>Q0 (op:=op) (hint:=hint) hl (r:=r) 4 b ([]++[s6 op (au l a).1]) (by simp) (by simp)
 rw[h1]
 exact h2
theorem Zh {l:List Tok} {a:Int} (hl:l.length<=200000):cmT l a (λop hint b=>QW l op hint 5 5 b)=oq (bE l a):=by
 unfold cmT bE
 rw[aW,aW]
 by_cases h0:a<0
 .
  rw[if_pos h0,if_pos (.inl h0)]
 rw[if_neg h0,cF (by omega)]
 by_cases h1:(l.length:Int)<a
 .
  rw[if_pos h1,if_pos (.inr h1)]
 rw[if_neg h1,if_neg (show ¬(a<0\/(l.length:Int)<a) by omega)]
 show pick2 (!(Ew l a).2) _ _=_
 cases (Ew l a).2 with
 |false=>rfl
 |
  true =>
  rw[if_neg (show ¬true=false by decide)]
  show pick2 (ltI (IntKind.wrap .i64 (a+1)) l.length) _ _=_;rw[i64_in (n:=a+1) (by omega) (by omega),i64_in (n:=a+1+1) (by omega) (by omega),aW,getI_at?]
  have go:∀hint b:Int,(if hint=0 then a+1 else a+2)=b->(pick2 (eqI b l.length) (oq ((Ew l a).1,hint,[],0,0)) (QW l (Ew l a).1 hint 5 5 b))=oq (MG l (Ew l a).1 hint a):=λhint b hb=>by
   unfold MG;rw[hb,aB,UH hl];split<;>rfl
  have h0:=go 0 (a+1) rfl;cases cH:at? l (a+1) with
  |
   none =>
   have:=dA (by omega) cH
   have hh:mF l a=0:=by unfold mF;rw[cH]
   rw[if_neg (by omega),hh]
   exact h0
  |
   some t =>
   have hh:mF l a=(jq t).2:=by unfold mF;rw[cH]
   rw[if_pos (dm cH).2,hh];show pick2 (!eqI (jq t).2 0) _ _=_;rw[aG];by_cases hw:(jq t).2=0
   .
    rw[if_pos hw,hw];exact h0
   rw[if_neg hw];exact go _ _ (by rw[if_neg hw];omega)
def gCm (args:List AV):Option (Bool×List AV) :=
 match args with
 |
  [L,.int .i64 a]=>match sM aC L with
  |some l=>some (Nat.ble l.length 200000,aec (bE l a))
  |none=>none
 |_=>none
theorem Zi:bh X0 cg 41 ⟨none,[none,none],gV gCm⟩ :=
 Ab rfl xh Wz sgC λvs ws hf=>by
  unfold gCm at hf;split at hf
  case h_2=>cases hf
  rename_i L a;split at hf
  case h_2=>cases hf
  rename_i l hl;simp only[Option.some.injEq,Prod.mk.injEq] at hf;obtain ⟨g0,rfl⟩:=hf;have g0:=Nat.le_of_ble_eq_true g0;refine ⟨rfl,UE,5,?_⟩;rw[bq hl,UG,Zh g0];rfl
def NC:List gJ:=(41,⟨none,[none,none],gV gCm⟩)::NQ
theorem Q4:bS X0 cg NC:=.cons Zi Wz
end
end Go.Proofs.YtpaddkkfefgkfaaGreatDoor.ps
