/- Places: all terms. Places: the contract of place. Operands and instructions: the contracts of Operand and Command. -/
import Derived.Test.YtpaddkkfefgkfaaGreatDoorGrd

namespace Go.Proofs.YtpaddkkfefgkfaaGreatDoor.ps
open Go.Tv Go.Ev Go.Px Go.Pp Go.Proofs.YtpaddkkfefgkfaaGreatDoor.ex
set_option maxRecDepth 100000
noncomputable section
def NO:List lS:=(165,YS fOn [none,none,none])::NS
theorem Wu:dD X0 eo NO:=.cons YY Ws
def agG (l:List Tok) (op en sz:Int) (n:Nat) (s:TS) (e f:Int):aa:=Uy [.cells 197 [.bQ aL l,.int .i64 op,.int .i64 en,.int .i64 s.bc,.int .i64 s.bn,.int .i64 s.ic,.int .i64 s.ix,.int .i64 s.sc,.int .i64 0,.int .i64 sz,.own 1 n,.own 2 0,.int .i64 e,.int .i64 f],.list 106 aL s.put 0 false false,.list 50 ek [] 0 false false]
def pAl:List Bool:=[true,true,true,false]
def YZ:bO:=⟨eX [0,3,4] pAl,.none,[]⟩
def Y0 (l:List Tok) (op en sz:Int) (r m:Nat) (sg:List UInt8) (a:Int) (s:TS) (e f:Int) (n:Nat):br:=fJ X0 (cN P2 NO _) YZ r 135 pAl (M7 [none]) m (j8 60 [(0,.ptr 0 0),(3,.int .i64 a),(4,.str sg)]) (agG l op en sz n s e f)
def stB (l:List Tok) (en a:Int):Bool:=Nat.ble l.length 1000000 && !ltI a 1 && !ltI en a && !ltI l.length en
def onB (l:List Tok) (en a b:Int) (s:TS):Bool:=Nat.ble l.length 200000 && !ltI a 0 && !ltI b a && !ltI en b&&ltI en l.length && !ltI (4*a) s.put.length
def JD (l:List Tok) (op en sz:Int) (J:List UInt8->Int->TS->Int->Int->Nat->br) (sg:List UInt8) (a:Int) (s:TS) (e f:Int):br :=
 pick2 (stB l en a&&(eqI e 0&&eqI f 0)&&true) (pick2 (onB l en a (bH l a en) s&&true&&true)
  (pick2 (!(fL rp l sg a (bH l a en) s).1) (lf (.bool false) l op en sz (fL rp l sg a (bH l a en) s).2.2.2 (fL rp l sg a (bH l a en) s).2.1 (fL rp l sg a (bH l a en) s).2.2.1 (fL rp l sg a (bH l a en) s).2.2.2.put.length)
   (pick2 (eqI (bH l a en) en) (lf (.bool true) l op en sz (fL rp l sg a (bH l a en) s).2.2.2 (fL rp l sg a (bH l a en) s).2.1 (fL rp l sg a (bH l a en) s).2.2.1 (fL rp l sg a (bH l a en) s).2.2.2.put.length)
    (Option.rec (motive:=λ_=>br) none (λy=>J y.2.2.1 (IntKind.wrap .i64 (bH l a en+1)) (fL rp l sg a (bH l a en) s).2.2.2 (fL rp l sg a (bH l a en) s).2.1 (fL rp l sg a (bH l a en) s).2.2.1 (fL rp l sg a (bH l a en) s).2.2.2.put.length) (aS l (bH l a en))))) none) none
theorem Y1 (l:List Tok) (op en sz:Int) (r m:Nat) (sg:List UInt8) (a:Int) (bc bn ic ix sc:Int) (put:List Tok) (e f:Int) (n:Nat):Y0 l op en sz r (m+1) sg a ⟨bc,bn,ic,ix,sc,put⟩ e f n=JD l op en sz (Y0 l op en sz r m) sg a ⟨bc,bn,ic,ix,sc,put⟩ e f:=by kernel_rfl
def Rl (l:List Tok) (op:Int) (J:List UInt8->Int->br):br :=
 (λyes:br=>pick2 (!ltI (IntKind.wrap .i64 (op+1)) 0) (pick2 (aM l (IntKind.wrap .i64 (op+1)) [43]) yes (pick2 (!ltI (IntKind.wrap .i64 (op+1)) 0) (pick2 (aM l (IntKind.wrap .i64 (op+1)) [45]) yes (J [43] (IntKind.wrap .i64 (op+1)))) none)) none)
  (Option.rec (motive:=λ_=>br) none (λy=>J y.2.2.1 (IntKind.wrap .i64 (IntKind.wrap .i64 (op+1)+1))) (aS l (IntKind.wrap .i64 (op+1))))
theorem UQ (l:List Tok) (op en sz:Int) (r:Nat) (bc bn ic ix sc:Int) (put:List Tok):ag X0 (cN P2 NO _) YZ r 135 [.ptr 0 0] (dJ 197 14 (wH l op en sz ⟨bc,bn,ic,ix,sc,put⟩ 0 0++[])) (M7 [none])=Rl l op (λsg a=>Y0 l op en sz r r sg a ⟨bc,bn,ic,ix,sc,put⟩ 0 0 put.length):=by kernel_rfl
theorem uT (e:Int):∀(r:List Tok) (p:Tok) (a d:Int),a+r.length=e->a<=jR e p r a d/\jR e p r a d<=e
 |
  [],p,a,d,h=>by
  have h:a+0=e:=h;unfold jR;omega
 |
  t::r,p,a,d,h=>by
  have hl:(a+1)+r.length=e:=by simp at h;omega
  unfold jR;have i1:=uT e r t (a+1) (d+1) hl;have i2:=uT e r t (a+1) (if 0<d-1 then d-1 else 0) hl;have i3:=uT e r t (a+1) d hl;split
  .
   omega
  split
  .
   omega
  split<;>omega
theorem uU {l:List Tok} {a e:Int} (h0:0<=a) (h1:a<=e) (h2:e<=l.length):a<=bH l a e/\bH l a e<=e:=by
 unfold bH
 exact uT e _ _ _ _ (by rw[List.length_drop,List.length_take];omega)
theorem UR {l:List Tok} {sg:List UInt8} {a b:Int} {s:TS} (h:(fL rp l sg a b s).1=true):(fL rp l sg a b s).2.1=0/\(fL rp l sg a b s).2.2.1=0:=by
 have key:∀o:jO,(∃s e f,o=eD s e f)\/(∃s,o=okO s)->o.1=true->o.2.1=0/\o.2.2.1=0:=λo ho h=>by
  rcases ho with ⟨s,e,f,rfl⟩|⟨s,rfl⟩
  .
   cases h
  exact ⟨rfl,rfl⟩
 have hal:∀r,(∃s' e f,fS sg r a s=eD s' e f)\/(∃s',fS sg r a s=okO s'):=λr=>by
  unfold fS;split
  .
   exact .inl ⟨_,_,_,rfl⟩
  split
  .
   exact .inr ⟨_,rfl⟩
  split
  .
   exact .inr ⟨_,rfl⟩
  exact .inl ⟨_,_,_,rfl⟩
 have hsc:∀r num n,(∃s' e f,dg sg r a num n s=eD s' e f)\/(∃s',dg sg r a num n s=okO s'):=λr num n=>by
  unfold dg;split
  .
   exact .inl ⟨_,_,_,rfl⟩
  split
  .
   exact .inr ⟨_,rfl⟩
  exact .inl ⟨_,_,_,rfl⟩
 refine key _ ?_ h
 unfold fL
 split
 .
  exact .inl ⟨_,_,_,rfl⟩
 split
 .
  split
  .
   split
   .
    exact hal _
   split
   .
    exact hal _
   exact .inr ⟨_,rfl⟩
  exact .inl ⟨_,_,_,rfl⟩
 split
 .
  split
  .
   split
   .
    split
    .
     exact hsc _ _ _
    split
    .
     exact hsc _ _ _
    exact .inr ⟨_,rfl⟩
   .
    split
    .
     exact hsc _ _ _
    exact .inr ⟨_,rfl⟩
   .
    split
    .
     exact hsc _ _ _
    exact .inr ⟨_,rfl⟩
   exact .inr ⟨_,rfl⟩
  exact .inl ⟨_,_,_,rfl⟩
 exact .inr ⟨_,rfl⟩
theorem GM {l:List Tok} {sg:List UInt8} {a b:Int} {s:TS} (h0:0<=a) (hab:a<=b):((fL rp l sg a b s).2.2.2.put.length:Int)<=s.put.length+3+(b-a):=by
 have hal:∀r,((fS sg r a s).2.2.2.put.length:Int)<=s.put.length+3+(b-a):=λr=>by
  have:(fS sg r a s).2.2.2.put=s.put:=by
   unfold fS;split
   .
    rfl
   split
   .
    rfl
   split<;>rfl
  rw[this];omega
 have hsc:∀r num n,((dg sg r a num n s).2.2.2.put.length:Int)<=s.put.length+3+(b-a):=λr num n=>by
  have:(dg sg r a num n s).2.2.2.put=s.put:=by
   unfold dg;split
   .
    rfl
   split<;>rfl
  rw[this];omega
 have hot:((kg l sg a b s).2.2.2.put.length:Int)<=s.put.length+3+(b-a):=by
  have hc:(Eg l a b).length<=(b-a).toNat:=by unfold Eg;rw[List.length_take];omega
  unfold kg okO;simp only[List.length_append,List.length_cons,List.length_nil];split
  .
   simp only[List.length_append,List.length_cons,List.length_nil];omega
  omega
 have hf:∀e f,((eD s e f).2.2.2.put.length:Int)<=s.put.length+3+(b-a):=λe f=>by show (s.put.length:Int)<=_;omega
 unfold fL
 split
 .
  exact hf _ _
 split
 .
  split
  .
   split
   .
    exact hal _
   split
   .
    exact hal _
   exact hot
  exact hf _ _
 split
 .
  split
  .
   split
   .
    split
    .
     exact hsc _ _ _
    split
    .
     exact hsc _ _ _
    exact hot
   .
    split
    .
     exact hsc _ _ _
    exact hot
   .
    split
    .
     exact hsc _ _ _
    exact hot
   exact hot
  exact hf _ _
 exact hot
theorem Ek {l:List Tok} {op en sz:Int} {r:Nat} (hl:l.length<=200000) (hel:en<l.length):∀(m:Nat) (sg:List UInt8) (a:Int) (s:TS),1<=a->a<=en->(s.put.length:Int)<=4*a->en-a<m ->
 ∃o,iG rp l en m sg a s=some o/\Y0 l op en sz r m sg a s 0 0 s.put.length=lfO l op en sz o
 |0,sg,a,s,h1,h2,h3,h4=>by omega
 |
  m+1,sg,a,s,h1,h2,h3,h4=>by
  obtain ⟨b1,b2⟩:=uU (l:=l) (a:=a) (e:=en) (by omega) h2 (by omega)
  have hst:stB l en a=true:=by
   unfold stB;rw[cP (by omega),cz h1,cz h2,cz (show en<=(l.length:Int) by omega)];rfl
  have hon:onB l en a (bH l a en) s=true:=by
   unfold onB;rw[cP hl,cz (show 0<=a by omega),cz b1,cz b2,lQ hel,cz h3];rfl
  have hstep:=Y1 l op en sz r m sg a s.bc s.bn s.ic s.ix s.sc s.put 0 0 s.put.length;have hstep:Y0 l op en sz r (m+1) sg a s 0 0 s.put.length=JD l op en sz (Y0 l op en sz r m) sg a s 0 0:=hstep;rw[hstep];unfold JD;rw[hst,hon]
  have hgo:iG rp l en (m+1) sg a s=match fL rp l sg a (bH l a en) s with
   |
    (true,_,_,s')=>if bH l a en=en then some (okO s') else match at? l (bH l a en) with
    |some t=>iG rp l en m t.2.2.1 (bH l a en+1) s'
    |none=>none
   |(false,x,f,s')=>some (eD s' x f):=rfl
  rw[hgo];have hok:=UR (l:=l) (sg:=sg) (a:=a) (b:=bH l a en) (s:=s);have hput:=GM (l:=l) (sg:=sg) (a:=a) (b:=bH l a en) (s:=s) (by omega) b1
  generalize hO:fL rp l sg a (bH l a en) s=o at hok hput;obtain ⟨ob,oe,of,os⟩:=o;cases ob with
  |false=>exact ⟨_,rfl,rfl⟩
  |
   true =>
   obtain ⟨rfl,rfl⟩:=hok rfl;simp only at hput ⊢;show ∃o,_/\pick2 (eqI (bH l a en) en) _ _=_;rw[aH];by_cases hb:bH l a en=en
   .
    rw[if_pos hb,if_pos hb];exact ⟨_,rfl,rfl⟩
   rw[if_neg hb,if_neg hb,getI_at?]
   obtain ⟨t,ht⟩:∃t,at? l (bH l a en)=some t:=by
    cases cw:at? l (bH l a en) with
    |some t=>exact ⟨t,rfl⟩
    |none=>have:=dR (by omega) cw;omega
   rw[ht];simp only;rw[i64_in (n:=bH l a en+1) (by omega) (by omega)]
   exact Ek hl hel m t.2.2.1 (bH l a en+1) os (by omega) (by omega) (by omega) (by omega)
def fT (l:List Tok) (op en:Int) (s:TS):jO :=
 (if aM l (op+1) [43]=true\/aM l (op+1) [45]=true then iG rp l en (l.length+1) ((at? l (op+1)).getD Bx).2.2.1 (op+2) s
  else iG rp l en (l.length+1) [43] (op+1) s).getD (eD s 0 0)
def fAl:YR:=λl op en s args=>match args with
 |[]=>some (Nat.ble l.length 200000 && !ltI op 0 && !ltI en (op+1)&&ltI en l.length&&s.put.isEmpty&&aM l en [93],((fT l op en s).2.1,(fT l op en s).2.2.1,(fT l op en s).2.2.2),[.val (.bool (fT l op en s).1)])
 |_=>none
theorem eE {l:List Tok} {a:Int} {t:List UInt8} (h:aM l a t=true):∃c,at? l a=some c/\iI c t=true:=by
 unfold aM at h
 split at h
 .
  rename_i c hc;exact ⟨c,hc,h⟩
 cases h
theorem Aq {c:Tok} {s t:List UInt8} (h:iI c s=true) (hne:s≠t):iI c t=false:=by
 unfold iI at h ⊢
 simp only[Bool.and_eq_true,decide_eq_true_eq] at h
 rw[decide_eq_true h.1,h.2,decide_eq_false hne];rfl
theorem Y2:cA X0 eo 135 (YS fAl []) :=
 Jz rfl xD Wu (nM:=[none]) λl op en sz s args q rs hF hal=>by
  unfold fAl at hF;split at hF
  case h_2=>cases hF
  simp only[Option.some.injEq,Prod.mk.injEq,Bool.and_eq_true,Bool.not_eq_true'] at hF;obtain ⟨⟨⟨⟨⟨⟨g0,g1⟩,g2⟩,g3⟩,g4⟩,g5⟩,rfl,rfl⟩:=hF;have g0:=Nat.le_of_ble_eq_true g0;have g1:=Bw g1;have g2:=Bw g2;have g3:en<l.length:=by rw[ltI_spec] at g3;simpa using g3
  have g4:s.put=[]:=List.isEmpty_iff.1 g4;refine ⟨[],[.bool (fT l op en s).1],YZ,l.length+1,rfl,rfl,?_⟩;have h1:=UQ l op en sz (l.length+1) s.bc s.bn s.ic s.ix s.sc s.put;refine h1.trans ?_;unfold Rl;simp only;rw[i64_in (n:=op+1) (by omega) (by omega),cz (show (0:Int)<=op+1 by omega),i64_in (n:=op+1+1) (by omega) (by omega),getI_at?]
  obtain ⟨c,hc⟩:∃c,at? l (op+1)=some c:=by
   cases cw:at? l (op+1) with
   |some t=>exact ⟨t,rfl⟩
   |none=>have:=dR (by omega) cw;omega
  have go:∀(sg:List UInt8) (a:Int),op+1<=a->a<=en->fT l op en s=((iG rp l en (l.length+1) sg a s).getD (eD s 0 0))->Y0 l op en sz (l.length+1) (l.length+1) sg a s 0 0 s.put.length=some (wH l op en sz (fT l op en s).2.2.2 (fT l op en s).2.1 (fT l op en s).2.2.1++[AV.bool (fT l op en s).1].map bM.val,[(fT l op en s).2.2.2.put.length,0]):=λsg a h1 h2 h3=>by
   obtain ⟨o,e1,e2⟩:=Ek (l:=l) (op:=op) (en:=en) (sz:=sz) (r:=l.length+1) g0 g3 (l.length+1) sg a s (by omega) h2 (by rw[g4];show (0:Int)<=_;omega) (by omega)
   rw[e2,h3,e1];rfl
  obtain ⟨ce,hce,S7⟩:=eE g5
  have hne:(aM l (op+1) [43]=true\/aM l (op+1) [45]=true)->op+2<=en:=λh=>by
   by_cases he:en=op+1
   .
    exfalso;rw[he] at hce;rcases h with h|h<;>(obtain ⟨c2,k1,k2⟩:=eE h;rw[hce] at k1;cases k1;rw[Aq S7 (by decide)] at k2;cases k2)
   omega
  rw[hc];by_cases hs:aM l (op+1) [43]=true\/aM l (op+1) [45]=true
  .
   have hy:=go c.2.2.1 (op+1+1) (by omega) (by have:=hne hs;omega) (by unfold fT;rw[if_pos hs,hc,show op+1+1=op+2 by omega];rfl)
   cases h43:aM l (op+1) [43] with
   |true=>exact hy
   |
    false =>
    cases h45:aM l (op+1) [45] with
    |true=>exact hy
    |false=>rw[h43,h45] at hs;simp at hs
  have hn:=go [43] (op+1) (by omega) (by omega) (by unfold fT;rw[if_neg hs])
  simp only[not_or,Bool.not_eq_true] at hs;rw[hs.1,hs.2];exact hn
def NA:List lS:=(135,YS fAl [])::NO
theorem Wv:dD X0 eo NA:=.cons Y2 Wu
end
end Go.Proofs.YtpaddkkfefgkfaaGreatDoor.ps

namespace Go.Proofs.YtpaddkkfefgkfaaGreatDoor.ps
open Go.Tv Go.Ev Go.Px Go.Pp Go.Proofs.YtpaddkkfefgkfaaGreatDoor.ex
set_option maxRecDepth 100000
noncomputable section
abbrev Rm:=Raw×Int×Int×Int
abbrev mQ:Tv.Ty:=.pair (.int .i64) (.pair (.pair (.int .i64) (.int .i64)) (.pair (.pair (.pair (.int .i64) (.int .i64)) (.pair (.pair (.int .i64) (.int .i64)) (.pair (.int .i64) (.pair (.int .i64) (.int .i64))))) (.pair (.sl ek) .bool)))
def xT:Raw:=(0,(0,0),((0,0),(0,0),0,0,0),[],false)
def bY (e f:Int):Rm:=(xT,0,e,f)
def US (r:Raw):List AV:=[.int .i64 r.1,.int .i64 r.2.1.1,.int .i64 r.2.1.2,.int .i64 r.2.2.1.1.1,.int .i64 r.2.2.1.1.2,.int .i64 r.2.2.1.2.1.1,.int .i64 r.2.2.1.2.1.2,.int .i64 r.2.2.1.2.2.1,.int .i64 r.2.2.1.2.2.2.1,.int .i64 r.2.2.1.2.2.2.2,.bQ ek r.2.2.2.1,.bool r.2.2.2.2]
def UT (r:Rm):List AV:=[.agg (US r.1),.int .i64 r.2.1,.agg [.int .i64 r.2.2.1,.int .i64 r.2.2.2]]
abbrev lU:=Option (List AV)
def jK (r:Rm):lU:=some (UT r)
def sgR:List (List (Option Tv.Ty)):=[[none,none,none,none,none,none,none,none,none,none,some ek,none],[none],[none,none]]
def adt (p:List Nd×Int×Int×Int) (sz:Int):Rm:=((2,(0,0),((8,0),(0,0),0,0,sz),p.1,true),p.2.1+1,0,0)
def UU (s:TS) (sz en:Int) (x:List Nd):Rm:=((2,(0,0),((s.bc,s.bn),(s.ic,s.ix),s.sc,0,sz),x,false),en+1,0,0)
def NZ:TS:=⟨0,0,0,0,0,[]⟩
def tF (l:List Tok) (op en sz:Int) (o:jO):Rm :=
 if o.1=false then bY o.2.1 o.2.2.1
 else if o.2.2.2.put=[] then (if GJ o.2.2.2.bc o.2.2.2.bn o.2.2.2.ic o.2.2.2.ix o.2.2.2.sc 0 sz=0 then UU o.2.2.2 sz en [] else bY 2 op)
 else if (ai o.2.2.2.put 0).2.2.1≠0 then bY (ai o.2.2.2.put 0).2.2.1 op
 else if (ai o.2.2.2.put 0).2.1<o.2.2.2.put.length then bY 4 op
 else if GJ o.2.2.2.bc o.2.2.2.bn o.2.2.2.ic o.2.2.2.ix o.2.2.2.sc 0 sz=0 then UU o.2.2.2 sz en (ai o.2.2.2.put 0).1 else bY 2 op
def fU (l:List Tok) (op sz:Int):Rm :=
 if gK ((at? l (op+1)).getD Bx) [114,101,108]=true then
  if (ai l (op+2)).2.2.1≠0 then bY (ai l (op+2)).2.2.1 (ai l (op+2)).2.2.2
  else if aM l (ai l (op+2)).2.1 [93]=true then adt (ai l (op+2)) sz else bY 4 (ai l (op+2)).2.1
 else match ep l (op+1) with
  |none=>bY 4 l.length
  |some en=>tF l op en sz (fT l op en NZ)
def flP (o:jO) (e op:Int):lU:=pick2 (eqI o.2.1 0) (jK (bY e op)) (jK (bY o.2.1 o.2.2.1))
def ckP (l:List Tok) (op en sz:Int) (o:jO) (x:List Nd):lU :=
 pick2 (!eqI (GJ o.2.2.2.bc o.2.2.2.bn o.2.2.2.ic o.2.2.2.ix o.2.2.2.sc 0 sz) 0) (flP o 2 op) (jK ((2,(0,0),((o.2.2.2.bc,o.2.2.2.bn),(o.2.2.2.ic,o.2.2.2.ix),o.2.2.2.sc,0,sz),x,false),IntKind.wrap .i64 (en+1),0,0))
def Am (l:List Tok) (op en sz:Int) (o:jO):lU :=
 pick2 (!o.1) (jK (bY o.2.1 o.2.2.1)) (pick2 (eqI o.2.2.2.put.length 0) (ckP l op en sz o [])
  (pick2 (Nat.ble o.2.2.2.put.length 1000000) (pick2 (!eqI (ai o.2.2.2.put 0).2.2.1 0) (flP o (ai o.2.2.2.put 0).2.2.1 op)
   (pick2 (ltI (ai o.2.2.2.put 0).2.1 o.2.2.2.put.length) (flP o 4 op) (ckP l op en sz o (ai o.2.2.2.put 0).1))) none))
def alB (l:List Tok) (op en:Int):Bool:=Nat.ble l.length 200000 && !ltI op 0 && !ltI en (op+1)&&ltI en l.length&&true&&aM l en [93]
def plT (l:List Tok) (op sz:Int):lU :=
 (λrel cl:lU=>pick2 (ltI (IntKind.wrap .i64 (op+1)) l.length) (Option.rec (motive:=λ_=>lU) none (λy=>pick2 (gK y [114,101,108]) rel cl) (aS l (IntKind.wrap .i64 (op+1)))) cl)
  (pick2 (Nat.ble l.length 1000000) (pick2 (!eqI (ai l (IntKind.wrap .i64 (op+2))).2.2.1 0) (jK (bY (ai l (IntKind.wrap .i64 (op+2))).2.2.1 (ai l (IntKind.wrap .i64 (op+2))).2.2.2))
   (pick2 (!ltI (ai l (IntKind.wrap .i64 (op+2))).2.1 0) (pick2 (!aM l (ai l (IntKind.wrap .i64 (op+2))).2.1 [93]) (jK (bY 4 (ai l (IntKind.wrap .i64 (op+2))).2.1))
    (jK ((2,(0,0),((8,0),(0,0),0,0,sz),(ai l (IntKind.wrap .i64 (op+2))).1,true),IntKind.wrap .i64 ((ai l (IntKind.wrap .i64 (op+2))).2.1+1),0,0))) none)) none)
  (pick2 (Nat.ble l.length 1000000 && !ltI (IntKind.wrap .i64 (op+1)) 0 && !ltI l.length (IntKind.wrap .i64 (op+1))) (pick2 (!(ep l (IntKind.wrap .i64 (op+1))).isSome) (jK (bY 4 l.length))
   (pick2 (alB l op ((ep l (IntKind.wrap .i64 (op+1))).getD 0)&&true&&true) (Am l op ((ep l (IntKind.wrap .i64 (op+1))).getD 0) sz (fT l op ((ep l (IntKind.wrap .i64 (op+1))).getD 0) NZ)) none)) none)
theorem UW (l:List Tok) (op sz:Int):ag X0 (cN P2 NA _) dc 5 92 [.bQ aL l,.int .i64 op,.int .i64 sz] aa.empty (oz sgR)=plT l op sz:=by kernel_rfl
theorem CS {e:Int}:∀(r:List Tok) (a d:Int),gL r a d=some e->a<=e/\e<a+r.length/\∃c,at? r (e-a)=some c/\iI c [93]=true
 |[],a,d,h=>by cases h
 |
  t::r,a,d,h=>by
  have step:∀d',gL r (a+1) d'=some e->a<=e/\e<a+(t::r).length/\∃c,at? (t::r) (e-a)=some c/\iI c [93]=true:=λd' h=>by
   obtain ⟨h1,h2,c,h3,h4⟩:=CS r (a+1) d' h;refine ⟨by omega,by simp;omega,c,?_,h4⟩
   obtain ⟨k,hk⟩:∃k:Nat,e-(a+1)=k:=⟨(e-(a+1)).toNat,by omega⟩
   rw[show e-a=((k+1:Nat):Int) by omega]
   rw[hk] at h3;exact h3
  unfold gL at h;split at h
  .
   exact step _ h
  split at h
  .
   exact step _ h
  split at h
  .
   rename_i hc;cases h;refine ⟨Int.le_refl _,by simp;omega,t,?_,hc.2⟩
   rw[Int.sub_self];rfl
  exact step _ h
theorem wJ {l:List Tok} {a e:Int} (h0:0<=a) (h1:a<=l.length) (h:ep l a=some e):a<=e/\e<l.length/\aM l e [93]=true:=by
 obtain ⟨k1,k2,c,k3,k4⟩:=CS _ _ _ h
 rw[List.length_drop] at k2
 refine ⟨k1,by omega,?_⟩
 have:at? l e=some c:=by
  obtain ⟨n,hn⟩:∃n:Nat,e-a=n:=⟨(e-a).toNat,by omega⟩
  rw[hn] at k3;have k3:(l.drop a.toNat)[n]? = some c:=k3;rw[List.getElem?_drop] at k3;rw[show e=((a.toNat+n:Nat):Int) by omega]
  exact k3
 unfold aM
 rw[this];exact k4
theorem oD {l:List Tok} {a:Int} (h:(ai l a).2.2.1=0):a<(ai l a).2.1/\(ai l a).2.1<=l.length:=by
 obtain ⟨⟨y,e,f,g⟩,hr⟩:=o6 (nm:=bf) l a
 have e1:ai l a=(y,e,f,g):=by unfold ai;rw[hr];rfl
 rw[e1] at h ⊢
 exact ((uP hr).2 h).2
theorem El {l:List Tok} {en:Int}:∀(m:Nat) (sg:List UInt8) (a:Int) (s:TS) (o:jO),iG rp l en m sg a s=some o->o.1=true->o.2.1=0/\o.2.2.1=0
 |0,_,_,_,_,h,_=>by cases h
 |
  m+1,sg,a,s,o,h,ho=>by
  unfold Pp.iG at h;split at h
  .
   split at h
   .
    cases h;exact ⟨rfl,rfl⟩
   split at h
   .
    exact El m _ _ _ o h ho
   cases h
  cases h;cases ho
theorem Ld {l:List Tok} {op en:Int} {s:TS} (h:(fT l op en s).1=true):(fT l op en s).2.1=0/\(fT l op en s).2.2.1=0:=by
 have key:∀r:Option jO,(∀o,r=some o->o.1=true->o.2.1=0/\o.2.2.1=0)->(r.getD (eD s 0 0)).1=true->(r.getD (eD s 0 0)).2.1=0/\(r.getD (eD s 0 0)).2.2.1=0:=λr h1 h2=>by
  cases r with
  |none=>cases h2
  |some o=>exact h1 o rfl h2
 unfold fT at h ⊢
 refine key _ (λo ho=>?_) h
 split at ho
 .
  exact El _ _ _ _ o ho
 exact El _ _ _ _ o ho
theorem Ar {l:List Tok} {en:Int} (hel:en<l.length):∀(m:Nat) (sg:List UInt8) (a:Int) (s:TS) (o:jO),0<=a->a<=en->(s.put.length:Int)<=4*a->iG rp l en m sg a s=some o->(o.2.2.2.put.length:Int)<=4*en+4
 |0,_,_,_,_,_,_,_,h=>by cases h
 |
  m+1,sg,a,s,o,h0,h1,h2,h=>by
  obtain ⟨b1,b2⟩:=uU (l:=l) (a:=a) (e:=en) h0 h1 (by omega)
  have hput:=GM (l:=l) (sg:=sg) (a:=a) (b:=bH l a en) (s:=s) h0 b1;unfold Pp.iG at h;split at h
  .
   rename_i s' hs;rw[hs] at hput;simp only at hput;split at h
   .
    cases h;show (s'.put.length:Int)<=_;omega
   split at h
   .
    exact Ar hel m _ _ _ o (by omega) (by omega) (by omega) h
   cases h
  rename_i x f s' hs;rw[hs] at hput;cases h;show (s'.put.length:Int)<=_;simp only at hput;omega
theorem Rn {l:List Tok} {op en:Int} {s:TS} (h0:0<=op) (h1:op+1<=en) (h2:en<l.length) (hs:s.put=[]) (hc:aM l en [93]=true):((fT l op en s).2.2.2.put.length:Int)<=4*en+4:=by
 obtain ⟨ce,hce,S7⟩:=eE hc
 have key:∀r:Option jO,(∀o,r=some o->(o.2.2.2.put.length:Int)<=4*en+4)->((r.getD (eD s 0 0)).2.2.2.put.length:Int)<=4*en+4:=λr h=>by
  cases r with
  |none=>show (s.put.length:Int)<=_;rw[hs];show (0:Int)<=_;omega
  |some o=>exact h o rfl
 unfold fT
 refine key _ λo ho=>?_
 split at ho
 .
  rename_i Ro
  have:op+2<=en:=by
   by_cases he:en=op+1
   .
    exfalso;rw[he] at hce;rcases Ro with h|h<;>(obtain ⟨c2,k1,k2⟩:=eE h;rw[hce] at k1;cases k1;rw[Aq S7 (by decide)] at k2;cases k2)
   omega
  exact Ar h2 _ _ _ _ o (by omega) this (by rw[hs];show (0:Int)<=_;omega) ho
 exact Ar h2 _ _ _ _ o (by omega) h1 (by rw[hs];show (0:Int)<=_;omega) ho
theorem UX {l:List Tok} {op en sz:Int} {o:jO} (hok:o.1=true->o.2.1=0/\o.2.2.1=0) (hp:o.2.2.2.put.length<=1000000) (he:0<=en) (he2:en<=1000000):Am l op en sz o=jK (tF l op en sz o):=by
 unfold Am tF
 cases ho:o.1 with
 |false=>rfl
 |
  true =>
  obtain ⟨h1,h2⟩:=hok ho;have hfl:∀e,flP o e op=jK (bY e op):=λe=>by unfold flP;rw[h1];rfl
  have hck:∀x,ckP l op en sz o x=jK (if GJ o.2.2.2.bc o.2.2.2.bn o.2.2.2.ic o.2.2.2.ix o.2.2.2.sc 0 sz=0 then UU o.2.2.2 sz en x else bY 2 op):=λx=>by
   unfold ckP;rw[bz,hfl,i64_in (n:=en+1) (by omega) (by omega)]
   split<;>rfl
  show pick2 (eqI o.2.2.2.put.length 0) _ _=_;rw[hck,hck,hfl,hfl,aH,bz,aV,cP hp,if_neg (show ¬true=false by decide)]
  by_cases hz:o.2.2.2.put=[]
  .
   rw[if_pos (by rw[hz];rfl),if_pos hz]
  rw[if_neg (by have:0<o.2.2.2.put.length:=List.length_pos_iff.2 hz;omega),if_neg hz]
  show ite _ _ _=_;by_cases h3:(ai o.2.2.2.put 0).2.2.1=0
  .
   rw[if_pos h3,if_neg (show ¬(ai o.2.2.2.put 0).2.2.1≠0 from λh=>h h3)]
   split<;>rfl
  rw[if_neg h3,if_pos h3]
theorem Y3 {l:List Tok} {op sz:Int} (hl:l.length<=200000) (h0:0<=op) (h1:op<l.length):plT l op sz=jK (fU l op sz):=by
 unfold plT fU
 simp only
 rw[i64_in (n:=op+1) (by omega) (by omega),i64_in (n:=op+2) (by omega) (by omega),cP (show l.length<=1000000 by omega),cz (show (0:Int)<=op+1 by omega),cz (show op+1<=(l.length:Int) by omega)]
 have iy:pick2 (true && !false && !false) (pick2 (!(ep l (op+1)).isSome) (jK (bY 4 l.length))
  (pick2 (alB l op ((ep l (op+1)).getD 0)&&true&&true) (Am l op ((ep l (op+1)).getD 0) sz (fT l op ((ep l (op+1)).getD 0) NZ)) none)) none=jK (match ep l (op+1) with
  |none=>bY 4 l.length
  |some en=>tF l op en sz (fT l op en NZ)):=by
  cases hc:ep l (op+1) with
  |none=>rfl
  |
   some en =>
   obtain ⟨c1,c2,c3⟩:=wJ (by omega) (by omega) hc
   have hal:alB l op en=true:=by
    unfold alB;rw[cP hl,cz h0,cz (show op+1<=en by omega),lQ c2,c3];rfl
   show pick2 (alB l op en&&true&&true) _ _=_;rw[hal];show Am l op en sz (fT l op en NZ)=_;exact UX Ld (by have:=Rn (s:=NZ) h0 c1 c2 rfl c3;omega) (by omega) (by omega)
 rw[iy]
 have hrel:pick2 true (pick2 (!eqI (ai l (op+2)).2.2.1 0) (jK (bY (ai l (op+2)).2.2.1 (ai l (op+2)).2.2.2))
  (pick2 (!ltI (ai l (op+2)).2.1 0) (pick2 (!aM l (ai l (op+2)).2.1 [93]) (jK (bY 4 (ai l (op+2)).2.1))
   (jK ((2,(0,0),((8,0),(0,0),0,0,sz),(ai l (op+2)).1,true),IntKind.wrap .i64 ((ai l (op+2)).2.1+1),0,0))) none)) none=jK (if (ai l (op+2)).2.2.1≠0 then bY (ai l (op+2)).2.2.1 (ai l (op+2)).2.2.2
  else if aM l (ai l (op+2)).2.1 [93]=true then adt (ai l (op+2)) sz else bY 4 (ai l (op+2)).2.1):=by
  show pick2 (!eqI (ai l (op+2)).2.2.1 0) _ _=_;rw[bz];by_cases h3:(ai l (op+2)).2.2.1=0
  .
   obtain ⟨q1,q2⟩:=oD h3;rw[if_pos h3,if_neg (show ¬(ai l (op+2)).2.2.1≠0 from λh=>h h3),cz (by omega),i64_in (n:=(ai l (op+2)).2.1+1) (by omega) (by omega)]
   cases aM l (ai l (op+2)).2.1 [93]<;>rfl
  rw[if_neg h3,if_pos h3]
 rw[hrel,getI_at?,aV]
 cases cw:at? l (op+1) with
 |
  none =>
  have:=dR (by omega) cw
  rw[if_neg (by omega)];rfl
 |
  some y =>
  rw[if_pos (dL cw).2];show pick2 (gK y [114,101,108]) _ _=jK (if gK y [114,101,108]=true then _ else _);cases gK y [114,101,108]<;>rfl
def gV (f:List AV->Option (Bool×List AV)) (ins:List bM):Option (Bool×List bM×List bM) :=
 match Em ins with
 |
  some vs=>match f vs with
  |some (c,ws)=>some (c,[],ws.map .val)
  |none=>none
 |none=>none
where Em:List bM->Option (List AV)
 |[]=>some []
 |
  .val v::l=>match Em l with
  |some vs=>some (v::vs)
  |none=>none
 |.list _ _ _::_=>none
theorem qP:∀{ins:List bM} {vs:List AV},gV.Em ins=some vs->ins=vs.map .val
 |[],vs,h=>by cases h;rfl
 |
  .val v::l,vs,h=>by
  unfold gV.Em at h;split at h
  .
   rename_i vs' h1;cases h;rw[qP h1];rfl
  cases h
 |.list _ _ _::_,_,h=>by cases h
theorem tG:∀(l:List AV) (M:aa),aK M (l.map .val)=M
 |[],_=>rfl
 |_::l,M=>tG l M
theorem GN {id:FuncId} (hk:lt.inl id=true) {M:List qB} {N:List lS} (hM:cU X0 eo M) (hN:dD X0 eo N) {sig:List (Option (TypeId×Tv.Ty))} {f:List AV->Option (Bool×List AV)} (sg:List (List (Option Tv.Ty)))
 (h:∀vs ws,f vs=some (true,ws)->ws.all Bt=true/\∃an rounds,ag X0 (cN M N _) an rounds id vs aa.empty (oz sg)=some ws):cA X0 eo id ⟨none,sig,gV f⟩ :=
 Q9 (nk hk) (eB hM hN) sg λins outs rs hg=>by
  unfold gV at hg;split at hg
  case h_2=>cases hg
  rename_i vs hv;split at hg
  case h_2=>cases hg
  rename_i c ws hf;simp only[Option.some.injEq,Prod.mk.injEq] at hg;obtain ⟨rfl,_,rfl⟩:=hg;obtain ⟨h1,an,rounds,h2⟩:=h vs ws hf;have hi:=qP hv;subst hi;refine ⟨an,rounds,ws,?_,rfl,h1⟩;rw[o7,tG];exact h2
def fPl (args:List AV):Option (Bool×List AV) :=
 match args with
 |
  [L,.int .i64 op,.int .i64 sz]=>match EK aL L with
  |some l=>some (Nat.ble l.length 200000 && !ltI op 0&&ltI op l.length,UT (fU l op sz))
  |none=>none
 |_=>none
theorem Le (r:Rm):(UT r).all Bt=true:=rfl
theorem Y4:cA X0 eo 92 ⟨none,[none,none,none],gV fPl⟩ :=
 GN rfl xD Wv sgR λvs ws hf=>by
  unfold fPl at hf;split at hf
  case h_2=>cases hf
  rename_i L op sz;split at hf
  case h_2=>cases hf
  rename_i l hl;simp only[Option.some.injEq,Prod.mk.injEq,Bool.and_eq_true,Bool.not_eq_true'] at hf;obtain ⟨⟨⟨g0,g1⟩,g2⟩,rfl⟩:=hf;have g0:=Nat.le_of_ble_eq_true g0;have g1:=Bw g1;have g2:op<l.length:=by rw[ltI_spec] at g2;simpa using g2
  refine ⟨Le _,dc,5,?_⟩;rw[dI hl,UW,Y3 g0 g1 g2];rfl
def NP:List lS:=(92,⟨none,[none,none,none],gV fPl⟩)::NA
theorem Ww:dD X0 eo NP:=.cons Y4 Wv
end
end Go.Proofs.YtpaddkkfefgkfaaGreatDoor.ps

namespace Go.Proofs.YtpaddkkfefgkfaaGreatDoor.ps
open Go.Tv Go.Ev Go.Px Go.Pp Go.Proofs.YtpaddkkfefgkfaaGreatDoor.ex
set_option maxRecDepth 100000
noncomputable section
def xU (p:List Nd×Int×Int×Int):Rm:=if p.2.2.1≠0 then bY p.2.2.1 p.2.2.2 else ((3,(0,0),((0,0),(0,0),0,0,0),p.1,false),p.2.1,0,0)
def adw (r:Rg) (a:Int):Rm:=((1,r,((0,0),(0,0),0,0,0),[],false),a+1,0,0)
def au (l:List Tok) (a:Int):Rm :=
 if a<0\/(l.length:Int)<a then bY 2 0 else
 match at? l a with
 |none=>xU (ai l a)
 |
  some t=>match iK rp t with
  |some r=>adw r a
  |
   none=>if 0<(jI t).1 then (if aM l (a+1) [91]=true then fU l (a+1) (jI t).1 else bY 4 (a+1))
   else if aM l a [91]=true then fU l a 0 else xU (ai l a)
def UY (l:List Tok) (a:Int):lU:=pick2 (Nat.ble l.length 1000000) (pick2 (!eqI (ai l a).2.2.1 0) (jK (bY (ai l a).2.2.1 (ai l a).2.2.2)) (jK ((3,(0,0),((0,0),(0,0),0,0,0),(ai l a).1,false),(ai l a).2.1,0,0))) none
def plB (l:List Tok) (a:Int):Bool:=Nat.ble l.length 200000 && !ltI a 0&&ltI a l.length
def NV (l:List Tok) (a:Int):lU :=
 pick2 (ltI a 0) (jK (bY 2 0)) (pick2 (ltI l.length a) (jK (bY 2 0)) (pick2 (ltI a l.length) (Option.rec (motive:=λ_=>lU) none (λt=>pick2 (iK rp t).isSome
  (jK ((1,(iK rp t).getD (0,0),((0,0),(0,0),0,0,0),[],false),IntKind.wrap .i64 (a+1),0,0))
  (Option.rec (motive:=λ_=>lU) none (λt=>pick2 (ltI 0 (jI t).1)
   (pick2 (!ltI (IntKind.wrap .i64 (a+1)) 0) (pick2 (!aM l (IntKind.wrap .i64 (a+1)) [91]) (jK (bY 4 (IntKind.wrap .i64 (a+1)))) (pick2 (plB l (IntKind.wrap .i64 (a+1))) (jK (fU l (IntKind.wrap .i64 (a+1)) (jI t).1)) none)) none)
   (pick2 (!ltI a 0) (pick2 (aM l a [91]) (pick2 (plB l a) (jK (fU l a 0)) none) (UY l a)) none)) (aS l a))) (aS l a)) (UY l a)))
theorem UZ (l:List Tok) (a:Int):ag X0 (cN P2 NP _) dc 5 52 [.bQ aL l,.int .i64 a] aa.empty (oz sgR)=NV l a:=by kernel_rfl
theorem U0 {l:List Tok} {a:Int} (hl:l.length<=200000):UY l a=jK (xU (ai l a)):=by
 unfold UY xU
 rw[cP (show l.length<=1000000 by omega)]
 show pick2 (!eqI (ai l a).2.2.1 0) _ _=_
 rw[bz]
 by_cases h:(ai l a).2.2.1=0
 .
  rw[if_pos h,if_neg (show ¬(ai l a).2.2.1≠0 from λq=>q h)]
 rw[if_neg h,if_pos h]
theorem Y5 {l:List Tok} {a:Int} (hl:l.length<=200000):NV l a=jK (au l a):=by
 unfold NV au
 rw[aV,aV,aV,U0 hl]
 by_cases h0:a<0
 .
  rw[if_pos h0,if_pos (.inl h0)]
 rw[if_neg h0]
 by_cases h1:(l.length:Int)<a
 .
  rw[if_pos h1,if_pos (.inr h1)]
 rw[if_neg h1,if_neg (show ¬(a<0\/(l.length:Int)<a) by omega),getI_at?]
 cases cw:at? l a with
 |
  none =>
  have:=dR (by omega) cw
  rw[if_neg (by omega)]
 |
  some t =>
  have hlt:=(dL cw).2;rw[if_pos hlt];simp only;rw[i64_in (n:=a+1) (by omega) (by omega),cz (show (0:Int)<=a+1 by omega),cz (show (0:Int)<=a by omega)]
  cases hr:iK rp t with
  |some r=>rfl
  |
   none =>
   show pick2 (ltI 0 (jI t).1) _ _=_;rw[aV];simp only;by_cases hw:0<(jI t).1
   .
    rw[if_pos hw,if_pos hw];cases hs:aM l (a+1) [91] with
    |false=>rfl
    |
     true =>
     obtain ⟨c,hc,_⟩:=eE hs;have:=(dL hc).2;show pick2 (plB l (a+1)) _ _=_;unfold plB;rw[cP hl,cz (show (0:Int)<=a+1 by omega),lQ this];rfl
   rw[if_neg hw,if_neg hw];show pick2 (aM l a [91]) _ _=_;cases hs:aM l a [91] with
   |false=>rfl
   |
    true =>
    show pick2 (plB l a) _ _=_;unfold plB;rw[cP hl,cz (show (0:Int)<=a by omega),lQ hlt];rfl
def fOp (args:List AV):Option (Bool×List AV) :=
 match args with
 |
  [L,.int .i64 a]=>match EK aL L with
  |some l=>some (Nat.ble l.length 200000,UT (au l a))
  |none=>none
 |_=>none
theorem Y6:cA X0 eo 52 ⟨none,[none,none],gV fOp⟩ :=
 GN rfl xD Ww sgR λvs ws hf=>by
  unfold fOp at hf;split at hf
  case h_2=>cases hf
  rename_i L a;split at hf
  case h_2=>cases hf
  rename_i l hl;simp only[Option.some.injEq,Prod.mk.injEq] at hf;obtain ⟨g0,rfl⟩:=hf;have g0:=Nat.le_of_ble_eq_true g0;refine ⟨Le _,dc,5,?_⟩;rw[dI hl,UZ,Y5 g0];rfl
def NQ:List lS:=(52,⟨none,[none,none],gV fOp⟩)::NP
theorem Wx:dD X0 eo NQ:=.cons Y6 Ww
abbrev xV:=Int×Int×List Raw×Int×Int
def adx (c:xV):List AV:=[.agg [.int .i64 c.1,.int .i64 c.2.1,.bQ mQ c.2.2.1],.agg [.int .i64 c.2.2.2.1,.int .i64 c.2.2.2.2]]
def oE (c:xV):lU:=some (adx c)
def HR (e f:Int):xV:=(0,0,[],e,f)
def sgC:List (List (Option Tv.Ty)):=[[none,none,some mQ],[none,none]]
def pCm:List Bool:=[true,true,true,true,true,true,true,true,false]
def U1:bO:=⟨eX [0,4,5,6,8,9] pCm,.none,[]⟩
def fCm (l:List Tok) (op a:Int):cj:=j8 115 [(0,.bQ aL l),(4,.ptr 0 0),(5,.ptr 1 0),(6,.int .i64 op),(8,.ptr 2 0),(9,.int .i64 a)]
def mCm (op hint:Int) (arg:AV) (rows:List Row):aa:=ot ([.cells 34 [.int .i64 0,.int .i64 0,.bR],.cells 56 [.int .i64 0,.int .i64 0],.cells 34 [.int .i64 op,.int .i64 hint,arg]]++rows)
def Rp (l:List Tok) (op hint:Int) (r m:Nat) (a:Int):lU:=fJ X0 (cN P2 NQ _) U1 r 41 pCm (oz sgC) m (fCm l op a) (mCm op hint .bR [])
def jCm (l:List Tok) (op hint:Int) (r m:Nat) (n:Nat) (a:Int) (args:List Raw):lU:=fJ X0 (cN P2 NQ _) U1 r 41 pCm (oz sgC) m (fCm l op a) (mCm op hint (.own 3 n) [.list 99 mQ args 0 false false])
def En (l:List Tok) (op hint:Int) (J:Nat->Int->List Raw->lU) (a:Int) (args:List Raw):lU :=
 (λX:Raw->lU=>pick2 (Nat.ble l.length 200000) (pick2 (!eqI (au l a).2.2.1 0) (oE (HR (au l a).2.2.1 (au l a).2.2.2))
  (pick2 (eqI (au l a).1.1 3) (pick2 (ny op) (X (4,(au l a).1.2)) (X (au l a).1)) (X (au l a).1))) none)
 (λraw=>pick2 (Nat.ble (args.length+1) 1000000) (pick2 (eqI (au l a).2.1 l.length) (oE (op,hint,args++[raw],0,0))
  (pick2 (!ltI (au l a).2.1 0) (pick2 (!aM l (au l a).2.1 [44]) (oE (HR 4 (au l a).2.1)) (pick2 (eqI ((args.length+1:Nat):Int) 4) (oE (HR 3 (au l a).2.1))
   (J (args.length+1) (IntKind.wrap .i64 ((au l a).2.1+1)) (args++[raw])))) none)) none)
theorem U2 (l:List Tok) (op hint:Int) (r m:Nat) (a:Int):Rp l op hint r (m+1) a=En l op hint (λn a args=>jCm l op hint r m n a args) a []:=by kernel_rfl
theorem Y7 (l:List Tok) (op hint:Int) (r m n:Nat) (a:Int) (args:List Raw):jCm l op hint r (m+1) n a args=En l op hint (λn a args=>jCm l op hint r m n a args) a args:=by kernel_rfl
def cmT (l:List Tok) (a:Int) (J:Int->Int->Int->lU):lU :=
 pick2 (ltI a 0) (oE (HR 2 0)) (pick2 (ltI l.length a) (oE (HR 2 0)) (pick2 (!ltI a 0) (pick2 (!(CM l a).2) (oE (HR 6 a))
  ((
   λgo:Int->Int->lU=>pick2 (ltI (IntKind.wrap .i64 (a+1)) l.length) (Option.rec (motive:=λ_=>lU) none (λt=>pick2 (!eqI (jI t).2 0) (go (jI t).2 (IntKind.wrap .i64 (IntKind.wrap .i64 (a+1)+1))) (go 0 (IntKind.wrap .i64 (a+1)))) (aS l (IntKind.wrap .i64 (a+1)))) (go 0 (IntKind.wrap .i64 (a+1))))
   (λhint b=>pick2 (eqI b l.length) (oE ((CM l a).1,hint,[],0,0)) (J (CM l a).1 hint b)))) none))
theorem U3 (l:List Tok) (a:Int) (r:Nat):ag X0 (cN P2 NQ _) U1 r 41 [.bQ aL l,.int .i64 a] aa.empty (oz sgC)=cmT l a (λop hint b=>Rp l op hint r r b):=by kernel_rfl
def xW (op:Int) (w:Raw):Raw:=if w.1=3/\ny op=true then (4,w.2) else w
def GP (l:List Tok) (op hint:Int):Nat->Int->List Raw->Option xV
 |0,_,_=>none
 |
  n+1,a,args =>
  if (au l a).2.2.1≠0 then some (HR (au l a).2.2.1 (au l a).2.2.2)
  else if (au l a).2.1=l.length then some (op,hint,args++[xW op (au l a).1],0,0)
  else if aM l (au l a).2.1 [44]=false then some (HR 4 (au l a).2.1)
  else if args.length+1=4 then some (HR 3 (au l a).2.1)
  else GP l op hint n ((au l a).2.1+1) (args++[xW op (au l a).1])
def M9 (l:List Tok) (op h a:Int):xV :=
 if (if h=0 then a+1 else a+2)=(l.length:Int) then (op,h,[],0,0) else (GP l op h 5 (if h=0 then a+1 else a+2) []).getD (HR 0 0)
def lz (l:List Tok) (a:Int):Int:=match at? l (a+1) with
 |some t=>(jI t).2
 |none=>0
def aJ (l:List Tok) (a:Int):xV :=
 if a<0\/(l.length:Int)<a then HR 2 0
 else if (CM l a).2=false then HR 6 a
 else M9 l (CM l a).1 (lz l a) a
theorem nA {l:List Tok} {i:Int} (h0:0<=i) (h1:i<l.length):∃t,at? l i=some t:=by
 cases cw:at? l i with
 |some t=>exact ⟨t,rfl⟩
 |none=>have:=dR h0 cw;omega
theorem Rq {l:List Tok} {sg:List UInt8} {a b:Int} {s:TS} (h0:0<=a) (hb:b<=l.length) (h:(fL rp l sg a b s).1=false):(fL rp l sg a b s).2.1≠0:=by
 have key:∀o:jO,(∃s e f,e≠0/\o=eD s e f)\/(∃s,o=okO s)->o.1=false->o.2.1≠0:=λo ho h=>by
  rcases ho with ⟨s,e,f,he,rfl⟩|⟨s,rfl⟩
  .
   exact he
  cases h
 have hal:∀r,(∃s' e f,e≠0/\fS sg r a s=eD s' e f)\/(∃s',fS sg r a s=okO s'):=λr=>by
  unfold fS;split
  .
   exact .inl ⟨_,_,_,by decide,rfl⟩
  split
  .
   exact .inr ⟨_,rfl⟩
  split
  .
   exact .inr ⟨_,rfl⟩
  exact .inl ⟨_,_,_,by decide,rfl⟩
 have hsc:∀r num n,(∃s' e f,e≠0/\dg sg r a num n s=eD s' e f)\/(∃s',dg sg r a num n s=okO s'):=λr num n=>by
  unfold dg;split
  .
   exact .inl ⟨_,_,_,by decide,rfl⟩
  split
  .
   exact .inr ⟨_,rfl⟩
  exact .inl ⟨_,_,_,by decide,rfl⟩
 refine key _ ?_ h
 unfold fL
 split
 .
  exact .inl ⟨_,_,_,by decide,rfl⟩
 split
 .
  obtain ⟨t,ht⟩:=nA (l:=l) (i:=a) h0 (by omega)
  rw[ht];simp only;split
  .
   exact hal _
  split
  .
   exact hal _
  exact .inr ⟨_,rfl⟩
 split
 .
  obtain ⟨t,ht⟩:=nA (l:=l) (i:=a) h0 (by omega)
  obtain ⟨u,hu⟩:=nA (l:=l) (i:=a+2) (by omega) (by omega)
  rw[ht,hu];simp only;split
  .
   split
   .
    exact hsc _ _ _
   split
   .
    exact hsc _ _ _
   exact .inr ⟨_,rfl⟩
  .
   split
   .
    exact hsc _ _ _
   exact .inr ⟨_,rfl⟩
  .
   split
   .
    exact hsc _ _ _
   exact .inr ⟨_,rfl⟩
  exact .inr ⟨_,rfl⟩
 exact .inr ⟨_,rfl⟩
theorem Au {l:List Tok} {en:Int} (hel:en<l.length):∀(m:Nat) (sg:List UInt8) (a:Int) (s:TS) (o:jO),0<=a->a<=en->Pp.iG rp l en m sg a s=some o->o.1=false->o.2.1≠0
 |0,_,_,_,_,_,_,h,_=>by cases h
 |
  m+1,sg,a,s,o,h0,h1,h,ho=>by
  obtain ⟨b1,b2⟩:=uU (l:=l) (a:=a) (e:=en) h0 h1 (by omega)
  have hb:=Rq (l:=l) (sg:=sg) (a:=a) (b:=bH l a en) (s:=s) h0 (by omega)
  unfold Pp.iG at h;split at h
  .
   split at h
   .
    cases h;cases ho
   split at h
   .
    exact Au hel m _ _ _ o (by omega) (by omega) h ho
   cases h
  rename_i x f s' hs;cases h;rw[hs] at hb;exact hb rfl
theorem Rs {l:List Tok} {op en:Int} {s:TS} (hl:l.length<=200000) (hs:s.put=[]) (h0:0<=op) (h1:op+1<=en) (h2:en<l.length) (hc:aM l en [93]=true) (h:(fT l op en s).1=false):(fT l op en s).2.1≠0:=by
 obtain ⟨ce,hce,S7⟩:=eE hc
 have key:∀r:Option jO,(∃o,r=some o)->(∀o,r=some o->o.1=false->o.2.1≠0)->(r.getD (eD s 0 0)).1=false->(r.getD (eD s 0 0)).2.1≠0:=λr ⟨o,ho⟩ h1 h2=>by
  subst ho;exact h1 o rfl h2
 have hput:∀a:Int,0<=a->(s.put.length:Int)<=4*a:=λa h=>by rw[hs];show (0:Int)<=_;omega
 unfold fT at h ⊢
 refine key _ ?_ (λo ho=>?_) h
 .
  split
  .
   rename_i Ro
   have:op+2<=en:=by
    by_cases he:en=op+1
    .
     exfalso;rw[he] at hce;rcases Ro with h|h<;>(obtain ⟨c2,k1,k2⟩:=eE h;rw[hce] at k1;cases k1;rw[Aq S7 (by decide)] at k2;cases k2)
    omega
   obtain ⟨o,h3,_⟩:=Ek (l:=l) (op:=op) (en:=en) (sz:=0) (r:=0) hl h2 (l.length+1) ((at? l (op+1)).getD Bx).2.2.1 (op+2) s (by omega) this (hput _ (by omega)) (by omega)
   exact ⟨o,h3⟩
  obtain ⟨o,h3,_⟩:=Ek (l:=l) (op:=op) (en:=en) (sz:=0) (r:=0) hl h2 (l.length+1) [43] (op+1) s (by omega) h1 (hput _ (by omega)) (by omega)
  exact ⟨o,h3⟩
 split at ho
 .
  rename_i Ro
  have:op+2<=en:=by
   by_cases he:en=op+1
   .
    exfalso;rw[he] at hce;rcases Ro with h|h<;>(obtain ⟨c2,k1,k2⟩:=eE h;rw[hce] at k1;cases k1;rw[Aq S7 (by decide)] at k2;cases k2)
   omega
  exact Au h2 _ _ _ _ o (by omega) this ho
 exact Au h2 _ _ _ _ o (by omega) h1 ho
theorem CT {l:List Tok} {op sz:Int} (hl:l.length<=200000) (h0:0<=op) (h1:op<l.length) (h:(fU l op sz).2.2.1=0):op<(fU l op sz).2.1/\(fU l op sz).2.1<=l.length:=by
 have hnone:∀e f,(bY e f).2.2.1=0->e=0:=λe f h=>h
 unfold fU at h ⊢
 split at h
 .
  rename_i hr;rw[if_pos hr];split at h
  .
   rename_i he;exact absurd h he
  rename_i he;have he:(ai l (op+2)).2.2.1=0:=Classical.not_not.1 he;obtain ⟨q1,q2⟩:=oD he;rw[if_neg (λq=>q he)]
  split at h
  .
   rename_i hs;rw[if_pos hs];obtain ⟨c,hc,_⟩:=eE hs;have:=(dL hc).2;show op<(ai l (op+2)).2.1+1/\(ai l (op+2)).2.1+1<=_;omega
  cases h
 rename_i hr
 rw[if_neg hr]
 split at h
 .
  cases h
 rename_i en hc
 obtain ⟨c1,c2,c3⟩:=wJ (by omega) (by omega) hc
 have key:∀o,(∀b,o.1=b->b=true->o.2.1=0/\o.2.2.1=0)->(tF l op en sz o).2.2.1=0->(tF l op en sz o).2.1=en+1\/(o.1=false/\o.2.1=0):=λo _ h=>by
  unfold tF at h ⊢;split at h
  .
   rename_i ho;exact .inr ⟨ho,h⟩
  rename_i ho;rw[if_neg ho]
  left
  split at h
  .
   rename_i hp;rw[if_pos hp];split at h
   .
    rename_i hm;rw[if_pos hm];rfl
   cases h
  rename_i hp;rw[if_neg hp];split at h
  .
   rename_i he;exact absurd h he
  rename_i he;rw[if_neg he];split at h
  .
   cases h
  rename_i hq;rw[if_neg hq];split at h
  .
   rename_i hm;rw[if_pos hm];rfl
  cases h
 rcases key (fT l op en NZ) (λb hb ht=>Ld (hb.trans ht)) h with hk|⟨k1,k2⟩
 .
  show op<(tF l op en sz (fT l op en NZ)).2.1/\(tF l op en sz (fT l op en NZ)).2.1<=_;rw[hk];omega
 exact absurd k2 (Rs hl rfl h0 c1 c2 c3 k1)
theorem xE {l:List Tok} {a:Int} (hl:l.length<=200000) (h:(au l a).2.2.1=0):0<=a/\a<(au l a).2.1/\(au l a).2.1<=l.length:=by
 have GQ:(xU (ai l a)).2.2.1=0->a<(xU (ai l a)).2.1/\(xU (ai l a)).2.1<=l.length:=λh=>by
  unfold xU at h ⊢;split at h
  .
   rename_i he;exact absurd h he
  rename_i he;rw[if_neg he];exact oD (Classical.not_not.1 he)
 unfold au at h ⊢
 split at h
 .
  cases h
 rename_i h0
 rw[if_neg h0]
 refine ⟨by omega,?_⟩
 cases cw:at? l a with
 |none=>rw[cw] at h;exact GQ h
 |
  some t =>
  rw[cw] at h;have hlt:=(dL cw).2;simp only at h ⊢;cases hr:iK rp t with
  |some r=>show a<a+1/\a+1<=_;omega
  |
   none =>
   rw[hr] at h;simp only at h ⊢;split at h
   .
    rename_i hw;rw[if_pos hw];split at h
    .
     rename_i hs;rw[if_pos hs];obtain ⟨c,hc,_⟩:=eE hs;have:=(dL hc).2;have:=CT hl (by omega) this h
     omega
    cases h
   rename_i hw;rw[if_neg hw];split at h
   .
    rename_i hs;rw[if_pos hs];exact CT hl (by omega) hlt h
   rename_i hs;rw[if_neg hs];exact GQ h
theorem CU {l:List Tok} {op hint:Int} (hl:l.length<=200000) {m:Nat} {J:Nat->Int->List Raw->lU} {a:Int} {args:List Raw} (hn:args.length<=3)
 (ih:∀b,args.length+1<=3->∃c,GP l op hint m b (args++[xW op (au l a).1])=some c/\J (args.length+1) b (args++[xW op (au l a).1])=oE c):∃c,GP l op hint (m+1) a args=some c/\En l op hint J a args=oE c:=by
 unfold En
 simp only
 rw[cP hl,cP (show args.length+1<=1000000 by omega)]
 have J6:∀X:Raw->lU,(pick2 (eqI (au l a).1.1 3) (pick2 (ny op) (X (4,(au l a).1.2)) (X (au l a).1)) (X (au l a).1))=X (xW op (au l a).1):=λX=>by
  rw[aH];unfold xW;by_cases h3:(au l a).1.1=3
  .
   rw[if_pos h3];cases ny op with
   |true=>rw[if_pos ⟨h3,rfl⟩]
   |false=>rw[if_neg (show ¬((au l a).1.1=3/\false=true) from λh=>by cases h.2)]
  rw[if_neg h3,if_neg (show ¬((au l a).1.1=3/\ny op=true) from λh=>h3 h.1)]
 have hX:=J6 (λraw=>pick2 true (pick2 (eqI (au l a).2.1 l.length) (oE (op,hint,args++[raw],0,0))
  (pick2 (!ltI (au l a).2.1 0) (pick2 (!aM l (au l a).2.1 [44]) (oE (HR 4 (au l a).2.1)) (pick2 (eqI ((args.length+1:Nat):Int) 4) (oE (HR 3 (au l a).2.1))
   (J (args.length+1) (IntKind.wrap .i64 ((au l a).2.1+1)) (args++[raw])))) none)) none)
 refine (congrArg (λz=>∃c,GP l op hint (m+1) a args=some c/\pick2 true (pick2 (!eqI (au l a).2.2.1 0) (oE (HR (au l a).2.2.1 (au l a).2.2.2)) z) none=oE c) hX).mpr ?_
 unfold GP
 show ∃c,_/\pick2 (!eqI (au l a).2.2.1 0) _ _=_
 rw[bz]
 by_cases he:(au l a).2.2.1=0
 .
  obtain ⟨q0,q1,q2⟩:=xE hl he;rw[if_pos he,if_neg (show ¬(au l a).2.2.1≠0 from λh=>h he)]
  show ∃c,_/\pick2 (eqI (au l a).2.1 l.length) _ _=_;rw[aH];by_cases h1:(au l a).2.1=l.length
  .
   rw[if_pos h1,if_pos h1];exact ⟨_,rfl,rfl⟩
  rw[if_neg h1,if_neg h1,cz (by omega),i64_in (n:=(au l a).2.1+1) (by omega) (by omega)]
  show ∃c,_/\pick2 (!aM l (au l a).2.1 [44]) _ _=_;cases aM l (au l a).2.1 [44] with
  |false=>exact ⟨_,rfl,rfl⟩
  |
   true =>
   rw[if_neg (show ¬true=false by decide)]
   show ∃c,_/\pick2 (eqI ((args.length+1:Nat):Int) 4) _ _=_;rw[aH];by_cases h4:args.length+1=4
   .
    rw[if_pos h4,if_pos (by omega)];exact ⟨_,rfl,rfl⟩
   rw[if_neg h4,if_neg (by omega)]
   exact ih _ (by omega)
 rw[if_neg he,if_pos he];exact ⟨_,rfl,rfl⟩
theorem Rt {l:List Tok} {op hint:Int} (hl:l.length<=200000) {r:Nat}:∀(m:Nat) (a:Int) (args:List Raw),args.length<=3->4<=args.length+m->∃c,GP l op hint m a args=some c/\jCm l op hint r m args.length a args=oE c
 |0,a,args,h1,h2=>by omega
 |
  m+1,a,args,h1,h2=>by
  rw[Y7];refine CU hl h1 λb hb=>?_
  have:=Rt (op:=op) (hint:=hint) hl (r:=r) m b (args++[xW op (au l a).1]) (by simp;omega) (by simp;omega)
  rw[show (args++[xW op (au l a).1]).length=args.length+1 by simp] at this
  exact this
theorem U4 {l:List Tok} {op hint:Int} (hl:l.length<=200000) {r:Nat} (a:Int):Rp l op hint r 5 a=oE ((GP l op hint 5 a []).getD (HR 0 0)):=by
 rw[U2]
 obtain ⟨c,h1,h2⟩:=CU (l:=l) (op:=op) (hint:=hint) hl (m:=4) (J:=λn a args=>jCm l op hint r 4 n a args) (a:=a) (args:=[]) (by simp) λb hb=>Rt (op:=op) (hint:=hint) hl (r:=r) 4 b ([]++[xW op (au l a).1]) (by simp) (by simp)
 rw[h1]
 exact h2
theorem Y8 {l:List Tok} {a:Int} (hl:l.length<=200000):cmT l a (λop hint b=>Rp l op hint 5 5 b)=oE (aJ l a):=by
 unfold cmT aJ
 rw[aV,aV]
 by_cases h0:a<0
 .
  rw[if_pos h0,if_pos (.inl h0)]
 rw[if_neg h0,cz (by omega)]
 by_cases h1:(l.length:Int)<a
 .
  rw[if_pos h1,if_pos (.inr h1)]
 rw[if_neg h1,if_neg (show ¬(a<0\/(l.length:Int)<a) by omega)]
 show pick2 (!(CM l a).2) _ _=_
 cases (CM l a).2 with
 |false=>rfl
 |
  true =>
  rw[if_neg (show ¬true=false by decide)]
  show pick2 (ltI (IntKind.wrap .i64 (a+1)) l.length) _ _=_;rw[i64_in (n:=a+1) (by omega) (by omega),i64_in (n:=a+1+1) (by omega) (by omega),aV,getI_at?]
  have go:∀hint b:Int,(if hint=0 then a+1 else a+2)=b->(pick2 (eqI b l.length) (oE ((CM l a).1,hint,[],0,0)) (Rp l (CM l a).1 hint 5 5 b))=oE (M9 l (CM l a).1 hint a):=λhint b hb=>by
   unfold M9;rw[hb,aH,U4 hl];split<;>rfl
  have h0:=go 0 (a+1) rfl;cases cw:at? l (a+1) with
  |
   none =>
   have:=dR (by omega) cw
   have hh:lz l a=0:=by unfold lz;rw[cw]
   rw[if_neg (by omega),hh]
   exact h0
  |
   some t =>
   have hh:lz l a=(jI t).2:=by unfold lz;rw[cw]
   rw[if_pos (dL cw).2,hh];show pick2 (!eqI (jI t).2 0) _ _=_;rw[bz];by_cases hw:(jI t).2=0
   .
    rw[if_pos hw,hw];exact h0
   rw[if_neg hw];exact go _ _ (by rw[if_neg hw];omega)
def gCm (args:List AV):Option (Bool×List AV) :=
 match args with
 |
  [L,.int .i64 a]=>match EK aL L with
  |some l=>some (Nat.ble l.length 200000,adx (aJ l a))
  |none=>none
 |_=>none
theorem Y9:cA X0 eo 41 ⟨none,[none,none],gV gCm⟩ :=
 GN rfl xD Wx sgC λvs ws hf=>by
  unfold gCm at hf;split at hf
  case h_2=>cases hf
  rename_i L a;split at hf
  case h_2=>cases hf
  rename_i l hl;simp only[Option.some.injEq,Prod.mk.injEq] at hf;obtain ⟨g0,rfl⟩:=hf;have g0:=Nat.le_of_ble_eq_true g0;refine ⟨rfl,U1,5,?_⟩;rw[dI hl,U3,Y8 g0];rfl
def NC:List lS:=(41,⟨none,[none,none],gV gCm⟩)::NQ
theorem Ru:dD X0 eo NC:=.cons Y9 Wx
end
end Go.Proofs.YtpaddkkfefgkfaaGreatDoor.ps
