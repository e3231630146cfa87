/- Places: all terms. Places: the contract of place. Operands and instructions: the contracts of Operand and Command. -/
import Derived.Test.YtpaddkkfefgkfaaGreatDoorGrd
set_option linter.unusedVariables false
set_option linter.unusedSimpArgs false

namespace Go.Proofs.YtpaddkkfefgkfaaGreatDoor.ps
open Go.Tv Go.Ev Go.Px Go.Pp Go.Proofs.YtpaddkkfefgkfaaGreatDoor.ex
set_option maxRecDepth 100000
noncomputable section
def NO:List kB:=(165,cTm fOn [none,none,none])::NS
theorem Z3:cR X0 cq NO:=.cons acw Z1
def alg (l:List Tok) (op en sz:Int) (n:Nat) (s:TS) (e f:Int):aa:=Xx [.cells 197 [.bF aQ l,.int .i64 op,.int .i64 en,.int .i64 s.bc,.int .i64 s.bn,.int .i64 s.ic,.int .i64 s.ix,.int .i64 s.sc,.int .i64 0,.int .i64 sz,.own 1 n,.own 2 0,.int .i64 e,.int .i64 f],.list 106 aQ s.put 0 false false,.list 50 cz [] 0 false false]
def pAl:List Bool:=[true,true,true,false]
def acy:bI:=⟨dP [0,3,4] pAl,.none,[]⟩
def jAl (l:List Tok) (op en sz:Int) (r m:Nat) (sg:List UInt8) (a:Int) (s:TS) (e f:Int) (n:Nat):bz:=dQ X0 (cN P2 NO _) acy r 135 pAl (Pz [none]) m (iB 60 [(0,.ptr 0 0),(3,.int .i64 a),(4,.str sg)]) (alg l op en sz n s e f)
def stB (l:List Tok) (en a:Int):Bool:=Nat.ble l.length 1000000 && !ltI a 1 && !ltI en a && !ltI l.length en
def onB (l:List Tok) (en a b:Int) (s:TS):Bool:=Nat.ble l.length 200000 && !ltI a 0 && !ltI b a && !ltI en b&&ltI en l.length && !ltI (4*a) s.put.length
def Lp (l:List Tok) (op en sz:Int) (J:List UInt8->Int->TS->Int->Int->Nat->bz) (sg:List UInt8) (a:Int) (s:TS) (e f:Int):bz :=
 pick2 (stB l en a&&(eqI e 0&&eqI f 0)&&true) (pick2 (onB l en a (bN l a en) s&&true&&true)
  (pick2 (!(gh rp l sg a (bN l a en) s).1) (lf (.bool false) l op en sz (gh rp l sg a (bN l a en) s).2.2.2 (gh rp l sg a (bN l a en) s).2.1 (gh rp l sg a (bN l a en) s).2.2.1 (gh rp l sg a (bN l a en) s).2.2.2.put.length)
   (pick2 (eqI (bN l a en) en) (lf (.bool true) l op en sz (gh rp l sg a (bN l a en) s).2.2.2 (gh rp l sg a (bN l a en) s).2.1 (gh rp l sg a (bN l a en) s).2.2.1 (gh rp l sg a (bN l a en) s).2.2.2.put.length)
    (Option.rec (motive:=λ_=>bz) none (λy=>J y.2.2.1 (IntKind.wrap .i64 (bN l a en+1)) (gh rp l sg a (bN l a en) s).2.2.2 (gh rp l sg a (bN l a en) s).2.1 (gh rp l sg a (bN l a en) s).2.2.1 (gh rp l sg a (bN l a en) s).2.2.2.put.length) (aO l (bN l a en))))) none) none
theorem acA (l:List Tok) (op en sz:Int) (r m:Nat) (sg:List UInt8) (a:Int) (bc bn ic ix sc:Int) (put:List Tok) (e f:Int) (n:Nat):jAl l op en sz r (m+1) sg a ⟨bc,bn,ic,ix,sc,put⟩ e f n=Lp l op en sz (jAl l op en sz r m) sg a ⟨bc,bn,ic,ix,sc,put⟩ e f:=by kernel_rfl
def TL (l:List Tok) (op:Int) (J:List UInt8->Int->bz):bz :=
 (λyes:bz=>pick2 (!ltI (IntKind.wrap .i64 (op+1)) 0) (pick2 (aT l (IntKind.wrap .i64 (op+1)) [43]) yes (pick2 (!ltI (IntKind.wrap .i64 (op+1)) 0) (pick2 (aT l (IntKind.wrap .i64 (op+1)) [45]) yes (J [43] (IntKind.wrap .i64 (op+1)))) none)) none)
  (Option.rec (motive:=λ_=>bz) none (λy=>J y.2.2.1 (IntKind.wrap .i64 (IntKind.wrap .i64 (op+1)+1))) (aO l (IntKind.wrap .i64 (op+1))))
theorem XO (l:List Tok) (op en sz:Int) (r:Nat) (bc bn ic ix sc:Int) (put:List Tok):ag X0 (cN P2 NO _) acy r 135 [.ptr 0 0] (ek 197 14 (x9 l op en sz ⟨bc,bn,ic,ix,sc,put⟩ 0 0++[])) (Pz [none])=TL l op (λsg a=>jAl l op en sz r r sg a ⟨bc,bn,ic,ix,sc,put⟩ 0 0 put.length):=by kernel_rfl
theorem wm (e:Int):∀(r:List Tok) (p:Tok) (a d:Int),a+r.length=e->a<=kE e p r a d/\kE e p r a d<=e
 |
  [],p,a,d,h=>by
  have h:a+0=e:=h;unfold kE;omega
 |
  t::r,p,a,d,h=>by
  have hl:(a+1)+r.length=e:=by simp at h;omega
  unfold kE;have i1:=wm e r t (a+1) (d+1) hl;have i2:=wm e r t (a+1) (if 0<d-1 then d-1 else 0) hl;have i3:=wm e r t (a+1) d hl;split
  .
   omega
  split
  .
   omega
  split<;>omega
theorem wo {l:List Tok} {a e:Int} (h0:0<=a) (h1:a<=e) (h2:e<=l.length):a<=bN l a e/\bN l a e<=e:=by
 unfold bN
 exact wm e _ _ _ _ (by rw[List.length_drop,List.length_take];omega)
theorem XP {l:List Tok} {sg:List UInt8} {a b:Int} {s:TS} (h:(gh rp l sg a b s).1=true):(gh rp l sg a b s).2.1=0/\(gh rp l sg a b s).2.2.1=0:=by
 have key:∀o:kC,(∃s e f,o=eR s e f)\/(∃s,o=okO s)->o.1=true->o.2.1=0/\o.2.2.1=0:=λo ho h=>by
  rcases ho with ⟨s,e,f,rfl⟩|⟨s,rfl⟩
  .
   cases h
  exact ⟨rfl,rfl⟩
 have hal:∀r,(∃s' e f,gw sg r a s=eR s' e f)\/(∃s',gw sg r a s=okO s'):=λr=>by
  unfold gw;split
  .
   exact .inl ⟨_,_,_,rfl⟩
  split
  .
   exact .inr ⟨_,rfl⟩
  split
  .
   exact .inr ⟨_,rfl⟩
  exact .inl ⟨_,_,_,rfl⟩
 have hsc:∀r num n,(∃s' e f,dS sg r a num n s=eR s' e f)\/(∃s',dS sg r a num n s=okO s'):=λr num n=>by
  unfold dS;split
  .
   exact .inl ⟨_,_,_,rfl⟩
  split
  .
   exact .inr ⟨_,rfl⟩
  exact .inl ⟨_,_,_,rfl⟩
 refine key _ ?_ h
 unfold gh
 split
 .
  exact .inl ⟨_,_,_,rfl⟩
 split
 .
  split
  .
   split
   .
    exact hal _
   split
   .
    exact hal _
   exact .inr ⟨_,rfl⟩
  exact .inl ⟨_,_,_,rfl⟩
 split
 .
  split
  .
   split
   .
    split
    .
     exact hsc _ _ _
    split
    .
     exact hsc _ _ _
    exact .inr ⟨_,rfl⟩
   .
    split
    .
     exact hsc _ _ _
    exact .inr ⟨_,rfl⟩
   .
    split
    .
     exact hsc _ _ _
    exact .inr ⟨_,rfl⟩
   exact .inr ⟨_,rfl⟩
  exact .inl ⟨_,_,_,rfl⟩
 exact .inr ⟨_,rfl⟩
theorem IK {l:List Tok} {sg:List UInt8} {a b:Int} {s:TS} (h0:0<=a) (hab:a<=b):((gh rp l sg a b s).2.2.2.put.length:Int)<=s.put.length+3+(b-a):=by
 have hal:∀r,((gw sg r a s).2.2.2.put.length:Int)<=s.put.length+3+(b-a):=λr=>by
  have:(gw sg r a s).2.2.2.put=s.put:=by
   unfold gw;split
   .
    rfl
   split
   .
    rfl
   split<;>rfl
  rw[this];omega
 have hsc:∀r num n,((dS sg r a num n s).2.2.2.put.length:Int)<=s.put.length+3+(b-a):=λr num n=>by
  have:(dS sg r a num n s).2.2.2.put=s.put:=by
   unfold dS;split
   .
    rfl
   split<;>rfl
  rw[this];omega
 have hot:((kX l sg a b s).2.2.2.put.length:Int)<=s.put.length+3+(b-a):=by
  have hc:(FT l a b).length<=(b-a).toNat:=by unfold FT;rw[List.length_take];omega
  unfold kX okO;simp only[List.length_append,List.length_cons,List.length_nil];split
  .
   simp only[List.length_append,List.length_cons,List.length_nil];omega
  omega
 have hf:∀e f,((eR s e f).2.2.2.put.length:Int)<=s.put.length+3+(b-a):=λe f=>by show (s.put.length:Int)<=_;omega
 unfold gh
 split
 .
  exact hf _ _
 split
 .
  split
  .
   split
   .
    exact hal _
   split
   .
    exact hal _
   exact hot
  exact hf _ _
 split
 .
  split
  .
   split
   .
    split
    .
     exact hsc _ _ _
    split
    .
     exact hsc _ _ _
    exact hot
   .
    split
    .
     exact hsc _ _ _
    exact hot
   .
    split
    .
     exact hsc _ _ _
    exact hot
   exact hot
  exact hf _ _
 exact hot
theorem FY {l:List Tok} {op en sz:Int} {r:Nat} (hl:l.length<=200000) (hel:en<l.length):∀(m:Nat) (sg:List UInt8) (a:Int) (s:TS),1<=a->a<=en->(s.put.length:Int)<=4*a->en-a<m ->
 ∃o,iX rp l en m sg a s=some o/\jAl l op en sz r m sg a s 0 0 s.put.length=lfO l op en sz o
 |0,sg,a,s,h1,h2,h3,h4=>by omega
 |
  m+1,sg,a,s,h1,h2,h3,h4=>by
  obtain ⟨b1,b2⟩:=wo (l:=l) (a:=a) (e:=en) (by omega) h2 (by omega)
  have hst:stB l en a=true:=by
   unfold stB;rw[cj (by omega),cn h1,cn h2,cn (show en<=(l.length:Int) by omega)];rfl
  have hon:onB l en a (bN l a en) s=true:=by
   unfold onB;rw[cj hl,cn (show 0<=a by omega),cn b1,cn b2,jo hel,cn h3];rfl
  have hstep:=acA l op en sz r m sg a s.bc s.bn s.ic s.ix s.sc s.put 0 0 s.put.length;have hstep:jAl l op en sz r (m+1) sg a s 0 0 s.put.length=Lp l op en sz (jAl l op en sz r m) sg a s 0 0:=hstep;rw[hstep];unfold Lp;rw[hst,hon]
  have hgo:iX rp l en (m+1) sg a s=match gh rp l sg a (bN l a en) s with
   |
    (true,_,_,s')=>if bN l a en=en then some (okO s') else match at? l (bN l a en) with
    |some t=>iX rp l en m t.2.2.1 (bN l a en+1) s'
    |none=>none
   |(false,x,f,s')=>some (eR s' x f):=rfl
  rw[hgo];have hok:=XP (l:=l) (sg:=sg) (a:=a) (b:=bN l a en) (s:=s);have hput:=IK (l:=l) (sg:=sg) (a:=a) (b:=bN l a en) (s:=s) (by omega) b1
  generalize hO:gh rp l sg a (bN l a en) s=o at hok hput;obtain ⟨ob,oe,of,os⟩:=o;cases ob with
  |false=>exact ⟨_,rfl,rfl⟩
  |
   true =>
   obtain ⟨rfl,rfl⟩:=hok rfl;simp only at hput ⊢;show ∃o,_/\pick2 (eqI (bN l a en) en) _ _=_;rw[av];by_cases hb:bN l a en=en
   .
    rw[if_pos hb,if_pos hb];exact ⟨_,rfl,rfl⟩
   rw[if_neg hb,if_neg hb,getI_at?]
   obtain ⟨t,ht⟩:∃t,at? l (bN l a en)=some t:=by
    cases cA:at? l (bN l a en) with
    |some t=>exact ⟨t,rfl⟩
    |none=>have:=eA (by omega) cA;omega
   rw[ht];simp only;rw[i64_in (n:=bN l a en+1) (by omega) (by omega)]
   exact FY hl hel m t.2.2.1 (bN l a en+1) os (by omega) (by omega) (by omega) (by omega)
def gx (l:List Tok) (op en:Int) (s:TS):kC :=
 (if aT l (op+1) [43]=true\/aT l (op+1) [45]=true then iX rp l en (l.length+1) ((at? l (op+1)).getD CY).2.2.1 (op+2) s
  else iX rp l en (l.length+1) [43] (op+1) s).getD (eR s 0 0)
def fAl:FTm:=λl op en s args=>match args with
 |[]=>some (Nat.ble l.length 200000 && !ltI op 0 && !ltI en (op+1)&&ltI en l.length&&s.put.isEmpty&&aT l en [93],((gx l op en s).2.1,(gx l op en s).2.2.1,(gx l op en s).2.2.2),[.val (.bool (gx l op en s).1)])
 |_=>none
theorem eS {l:List Tok} {a:Int} {t:List UInt8} (h:aT l a t=true):∃c,at? l a=some c/\iY c t=true:=by
 unfold aT at h
 split at h
 .
  rename_i c hc;exact ⟨c,hc,h⟩
 cases h
theorem BV {c:Tok} {s t:List UInt8} (h:iY c s=true) (hne:s≠t):iY c t=false:=by
 unfold iY at h ⊢
 simp only[Bool.and_eq_true,decide_eq_true_eq] at h
 rw[decide_eq_true h.1,h.2,decide_eq_false hne];rfl
theorem acB:cu X0 cq 135 (cTm fAl []) :=
 Lj rfl rS Z3 (oG:=[none]) λl op en sz s args q rs hF hal=>by
  unfold fAl at hF;split at hF
  case h_2=>cases hF
  simp only[Option.some.injEq,Prod.mk.injEq,Bool.and_eq_true,Bool.not_eq_true'] at hF;obtain ⟨⟨⟨⟨⟨⟨g0,g1⟩,g2⟩,g3⟩,g4⟩,g5⟩,rfl,rfl⟩:=hF;have g0:=Nat.le_of_ble_eq_true g0;have g1:=CX g1;have g2:=CX g2;have g3:en<l.length:=by rw[ltI_spec] at g3;simpa using g3
  have g4:s.put=[]:=List.isEmpty_iff.1 g4;refine ⟨[],[.bool (gx l op en s).1],acy,l.length+1,rfl,rfl,?_⟩;have h1:=XO l op en sz (l.length+1) s.bc s.bn s.ic s.ix s.sc s.put;refine h1.trans ?_;unfold TL;simp only;rw[i64_in (n:=op+1) (by omega) (by omega),cn (show (0:Int)<=op+1 by omega),i64_in (n:=op+1+1) (by omega) (by omega),getI_at?]
  obtain ⟨c,hc⟩:∃c,at? l (op+1)=some c:=by
   cases cA:at? l (op+1) with
   |some t=>exact ⟨t,rfl⟩
   |none=>have:=eA (by omega) cA;omega
  have go:∀(sg:List UInt8) (a:Int),op+1<=a->a<=en->gx l op en s=((iX rp l en (l.length+1) sg a s).getD (eR s 0 0))->jAl l op en sz (l.length+1) (l.length+1) sg a s 0 0 s.put.length=some (x9 l op en sz (gx l op en s).2.2.2 (gx l op en s).2.1 (gx l op en s).2.2.1++[AV.bool (gx l op en s).1].map bP.val,[(gx l op en s).2.2.2.put.length,0]):=λsg a h1 h2 h3=>by
   obtain ⟨o,e1,e2⟩:=FY (l:=l) (op:=op) (en:=en) (sz:=sz) (r:=l.length+1) g0 g3 (l.length+1) sg a s (by omega) h2 (by rw[g4];show (0:Int)<=_;omega) (by omega)
   rw[e2,h3,e1];rfl
  obtain ⟨ce,hce,V8⟩:=eS g5
  have hne:(aT l (op+1) [43]=true\/aT l (op+1) [45]=true)->op+2<=en:=λh=>by
   by_cases he:en=op+1
   .
    exfalso;rw[he] at hce;rcases h with h|h<;>(obtain ⟨c2,k1,k2⟩:=eS h;rw[hce] at k1;cases k1;rw[BV V8 (by decide)] at k2;cases k2)
   omega
  rw[hc];by_cases hs:aT l (op+1) [43]=true\/aT l (op+1) [45]=true
  .
   have hy:=go c.2.2.1 (op+1+1) (by omega) (by have:=hne hs;omega) (by unfold gx;rw[if_pos hs,hc,show op+1+1=op+2 by omega];rfl)
   cases h43:aT l (op+1) [43] with
   |true=>exact hy
   |
    false =>
    cases h45:aT l (op+1) [45] with
    |true=>exact hy
    |false=>rw[h43,h45] at hs;simp at hs
  have hn:=go [43] (op+1) (by omega) (by omega) (by unfold gx;rw[if_neg hs])
  simp only[not_or,Bool.not_eq_true] at hs;rw[hs.1,hs.2];exact hn
def NA:List kB:=(135,cTm fAl [])::NO
theorem Z4:cR X0 cq NA:=.cons acB Z3
end
end Go.Proofs.YtpaddkkfefgkfaaGreatDoor.ps

namespace Go.Proofs.YtpaddkkfefgkfaaGreatDoor.ps
open Go.Tv Go.Ev Go.Px Go.Pp Go.Proofs.YtpaddkkfefgkfaaGreatDoor.ex
set_option maxRecDepth 100000
noncomputable section
abbrev TM:=Raw×Int×Int×Int
abbrev mg:Tv.Ty:=.pair (.int .i64) (.pair (.pair (.int .i64) (.int .i64)) (.pair (.pair (.pair (.int .i64) (.int .i64)) (.pair (.pair (.int .i64) (.int .i64)) (.pair (.int .i64) (.pair (.int .i64) (.int .i64))))) (.pair (.sl cz) .bool)))
def zg:Raw:=(0,(0,0),((0,0),(0,0),0,0,0),[],false)
def cD (e f:Int):TM:=(zg,0,e,f)
def TN (r:Raw):List AV:=[.int .i64 r.1,.int .i64 r.2.1.1,.int .i64 r.2.1.2,.int .i64 r.2.2.1.1.1,.int .i64 r.2.2.1.1.2,.int .i64 r.2.2.1.2.1.1,.int .i64 r.2.2.1.2.1.2,.int .i64 r.2.2.1.2.2.1,.int .i64 r.2.2.1.2.2.2.1,.int .i64 r.2.2.1.2.2.2.2,.bF cz r.2.2.2.1,.bool r.2.2.2.2]
def th (r:TM):List AV:=[.agg (TN r.1),.int .i64 r.2.1,.agg [.int .i64 r.2.2.1,.int .i64 r.2.2.2]]
abbrev mS:=Option (List AV)
def kj (r:TM):mS:=some (th r)
def sgR:List (List (Option Tv.Ty)):=[[none,none,none,none,none,none,none,none,none,none,some cz,none],[none],[none,none]]
def ahy (p:List Nd×Int×Int×Int) (sz:Int):TM:=((2,(0,0),((8,0),(0,0),0,0,sz),p.1,true),p.2.1+1,0,0)
def XQ (s:TS) (sz en:Int) (x:List Nd):TM:=((2,(0,0),((s.bc,s.bn),(s.ic,s.ix),s.sc,0,sz),x,false),en+1,0,0)
def Qr:TS:=⟨0,0,0,0,0,[]⟩
def uK (l:List Tok) (op en sz:Int) (o:kC):TM :=
 if o.1=false then cD o.2.1 o.2.2.1
 else if o.2.2.2.put=[] then (if FR o.2.2.2.bc o.2.2.2.bn o.2.2.2.ic o.2.2.2.ix o.2.2.2.sc 0 sz=0 then XQ o.2.2.2 sz en [] else cD 2 op)
 else if (ai o.2.2.2.put 0).2.2.1≠0 then cD (ai o.2.2.2.put 0).2.2.1 op
 else if (ai o.2.2.2.put 0).2.1<o.2.2.2.put.length then cD 4 op
 else if FR o.2.2.2.bc o.2.2.2.bn o.2.2.2.ic o.2.2.2.ix o.2.2.2.sc 0 sz=0 then XQ o.2.2.2 sz en (ai o.2.2.2.put 0).1 else cD 2 op
def gy (l:List Tok) (op sz:Int):TM :=
 if gX ((at? l (op+1)).getD CY) [114,101,108]=true then
  if (ai l (op+2)).2.2.1≠0 then cD (ai l (op+2)).2.2.1 (ai l (op+2)).2.2.2
  else if aT l (ai l (op+2)).2.1 [93]=true then ahy (ai l (op+2)) sz else cD 4 (ai l (op+2)).2.1
 else match eK l (op+1) with
  |none=>cD 4 l.length
  |some en=>uK l op en sz (gx l op en Qr)
def flP (o:kC) (e op:Int):mS:=pick2 (eqI o.2.1 0) (kj (cD e op)) (kj (cD o.2.1 o.2.2.1))
def ckP (l:List Tok) (op en sz:Int) (o:kC) (x:List Nd):mS :=
 pick2 (!eqI (FR o.2.2.2.bc o.2.2.2.bn o.2.2.2.ic o.2.2.2.ix o.2.2.2.sc 0 sz) 0) (flP o 2 op) (kj ((2,(0,0),((o.2.2.2.bc,o.2.2.2.bn),(o.2.2.2.ic,o.2.2.2.ix),o.2.2.2.sc,0,sz),x,false),IntKind.wrap .i64 (en+1),0,0))
def BQ (l:List Tok) (op en sz:Int) (o:kC):mS :=
 pick2 (!o.1) (kj (cD o.2.1 o.2.2.1)) (pick2 (eqI o.2.2.2.put.length 0) (ckP l op en sz o [])
  (pick2 (Nat.ble o.2.2.2.put.length 1000000) (pick2 (!eqI (ai o.2.2.2.put 0).2.2.1 0) (flP o (ai o.2.2.2.put 0).2.2.1 op)
   (pick2 (ltI (ai o.2.2.2.put 0).2.1 o.2.2.2.put.length) (flP o 4 op) (ckP l op en sz o (ai o.2.2.2.put 0).1))) none))
def alB (l:List Tok) (op en:Int):Bool:=Nat.ble l.length 200000 && !ltI op 0 && !ltI en (op+1)&&ltI en l.length&&true&&aT l en [93]
def plT (l:List Tok) (op sz:Int):mS :=
 (λrel cl:mS=>pick2 (ltI (IntKind.wrap .i64 (op+1)) l.length) (Option.rec (motive:=λ_=>mS) none (λy=>pick2 (gX y [114,101,108]) rel cl) (aO l (IntKind.wrap .i64 (op+1)))) cl)
  (pick2 (Nat.ble l.length 1000000) (pick2 (!eqI (ai l (IntKind.wrap .i64 (op+2))).2.2.1 0) (kj (cD (ai l (IntKind.wrap .i64 (op+2))).2.2.1 (ai l (IntKind.wrap .i64 (op+2))).2.2.2))
   (pick2 (!ltI (ai l (IntKind.wrap .i64 (op+2))).2.1 0) (pick2 (!aT l (ai l (IntKind.wrap .i64 (op+2))).2.1 [93]) (kj (cD 4 (ai l (IntKind.wrap .i64 (op+2))).2.1))
    (kj ((2,(0,0),((8,0),(0,0),0,0,sz),(ai l (IntKind.wrap .i64 (op+2))).1,true),IntKind.wrap .i64 ((ai l (IntKind.wrap .i64 (op+2))).2.1+1),0,0))) none)) none)
  (pick2 (Nat.ble l.length 1000000 && !ltI (IntKind.wrap .i64 (op+1)) 0 && !ltI l.length (IntKind.wrap .i64 (op+1))) (pick2 (!(eK l (IntKind.wrap .i64 (op+1))).isSome) (kj (cD 4 l.length))
   (pick2 (alB l op ((eK l (IntKind.wrap .i64 (op+1))).getD 0)&&true&&true) (BQ l op ((eK l (IntKind.wrap .i64 (op+1))).getD 0) sz (gx l op ((eK l (IntKind.wrap .i64 (op+1))).getD 0) Qr)) none)) none)
theorem XR (l:List Tok) (op sz:Int):ag X0 (cN P2 NA _) bW 5 92 [.bF aQ l,.int .i64 op,.int .i64 sz] aa.empty (mB sgR)=plT l op sz:=by kernel_rfl
theorem Eh {e:Int}:∀(r:List Tok) (a d:Int),gY r a d=some e->a<=e/\e<a+r.length/\∃c,at? r (e-a)=some c/\iY c [93]=true
 |[],a,d,h=>by cases h
 |
  t::r,a,d,h=>by
  have step:∀d',gY r (a+1) d'=some e->a<=e/\e<a+(t::r).length/\∃c,at? (t::r) (e-a)=some c/\iY c [93]=true:=λd' h=>by
   obtain ⟨h1,h2,c,h3,h4⟩:=Eh r (a+1) d' h;refine ⟨by omega,by simp;omega,c,?_,h4⟩
   obtain ⟨k,hk⟩:∃k:Nat,e-(a+1)=k:=⟨(e-(a+1)).toNat,by omega⟩
   rw[show e-a=((k+1:Nat):Int) by omega]
   rw[hk] at h3;exact h3
  unfold gY at h;split at h
  .
   exact step _ h
  split at h
  .
   exact step _ h
  split at h
  .
   rename_i hc;cases h;refine ⟨Int.le_refl _,by simp;omega,t,?_,hc.2⟩
   rw[Int.sub_self];rfl
  exact step _ h
theorem ya {l:List Tok} {a e:Int} (h0:0<=a) (h1:a<=l.length) (h:eK l a=some e):a<=e/\e<l.length/\aT l e [93]=true:=by
 obtain ⟨k1,k2,c,k3,k4⟩:=Eh _ _ _ h
 rw[List.length_drop] at k2
 refine ⟨k1,by omega,?_⟩
 have:at? l e=some c:=by
  obtain ⟨n,hn⟩:∃n:Nat,e-a=n:=⟨(e-a).toNat,by omega⟩
  rw[hn] at k3;have k3:(l.drop a.toNat)[n]? = some c:=k3;rw[List.getElem?_drop] at k3;rw[show e=((a.toNat+n:Nat):Int) by omega]
  exact k3
 unfold aT
 rw[this];exact k4
theorem o8 {l:List Tok} {a:Int} (h:(ai l a).2.2.1=0):a<(ai l a).2.1/\(ai l a).2.1<=l.length:=by
 obtain ⟨⟨y,e,f,g⟩,hr⟩:=p7 (nm:=ax) l a
 have e1:ai l a=(y,e,f,g):=by unfold ai;rw[hr];rfl
 rw[e1] at h ⊢
 exact ((wh hr).2 h).2
theorem FZ {l:List Tok} {en:Int}:∀(m:Nat) (sg:List UInt8) (a:Int) (s:TS) (o:kC),iX rp l en m sg a s=some o->o.1=true->o.2.1=0/\o.2.2.1=0
 |0,_,_,_,_,h,_=>by cases h
 |
  m+1,sg,a,s,o,h,ho=>by
  unfold Pp.iX at h;split at h
  .
   split at h
   .
    cases h;exact ⟨rfl,rfl⟩
   split at h
   .
    exact FZ m _ _ _ o h ho
   cases h
  cases h;cases ho
theorem Nt {l:List Tok} {op en:Int} {s:TS} (h:(gx l op en s).1=true):(gx l op en s).2.1=0/\(gx l op en s).2.2.1=0:=by
 have key:∀r:Option kC,(∀o,r=some o->o.1=true->o.2.1=0/\o.2.2.1=0)->(r.getD (eR s 0 0)).1=true->(r.getD (eR s 0 0)).2.1=0/\(r.getD (eR s 0 0)).2.2.1=0:=λr h1 h2=>by
  cases r with
  |none=>cases h2
  |some o=>exact h1 o rfl h2
 unfold gx at h ⊢
 refine key _ (λo ho=>?_) h
 split at ho
 .
  exact FZ _ _ _ _ o ho
 exact FZ _ _ _ _ o ho
theorem BW {l:List Tok} {en:Int} (hel:en<l.length):∀(m:Nat) (sg:List UInt8) (a:Int) (s:TS) (o:kC),0<=a->a<=en->(s.put.length:Int)<=4*a->iX rp l en m sg a s=some o->(o.2.2.2.put.length:Int)<=4*en+4
 |0,_,_,_,_,_,_,_,h=>by cases h
 |
  m+1,sg,a,s,o,h0,h1,h2,h=>by
  obtain ⟨b1,b2⟩:=wo (l:=l) (a:=a) (e:=en) h0 h1 (by omega)
  have hput:=IK (l:=l) (sg:=sg) (a:=a) (b:=bN l a en) (s:=s) h0 b1;unfold Pp.iX at h;split at h
  .
   rename_i s' hs;rw[hs] at hput;simp only at hput;split at h
   .
    cases h;show (s'.put.length:Int)<=_;omega
   split at h
   .
    exact BW hel m _ _ _ o (by omega) (by omega) (by omega) h
   cases h
  rename_i x f s' hs;rw[hs] at hput;cases h;show (s'.put.length:Int)<=_;simp only at hput;omega
theorem TP {l:List Tok} {op en:Int} {s:TS} (h0:0<=op) (h1:op+1<=en) (h2:en<l.length) (hs:s.put=[]) (hc:aT l en [93]=true):((gx l op en s).2.2.2.put.length:Int)<=4*en+4:=by
 obtain ⟨ce,hce,V8⟩:=eS hc
 have key:∀r:Option kC,(∀o,r=some o->(o.2.2.2.put.length:Int)<=4*en+4)->((r.getD (eR s 0 0)).2.2.2.put.length:Int)<=4*en+4:=λr h=>by
  cases r with
  |none=>show (s.put.length:Int)<=_;rw[hs];show (0:Int)<=_;omega
  |some o=>exact h o rfl
 unfold gx
 refine key _ λo ho=>?_
 split at ho
 .
  rename_i Lq
  have:op+2<=en:=by
   by_cases he:en=op+1
   .
    exfalso;rw[he] at hce;rcases Lq with h|h<;>(obtain ⟨c2,k1,k2⟩:=eS h;rw[hce] at k1;cases k1;rw[BV V8 (by decide)] at k2;cases k2)
   omega
  exact BW h2 _ _ _ _ o (by omega) this (by rw[hs];show (0:Int)<=_;omega) ho
 exact BW h2 _ _ _ _ o (by omega) h1 (by rw[hs];show (0:Int)<=_;omega) ho
theorem XS {l:List Tok} {op en sz:Int} {o:kC} (hok:o.1=true->o.2.1=0/\o.2.2.1=0) (hp:o.2.2.2.put.length<=1000000) (he:0<=en) (he2:en<=1000000):BQ l op en sz o=kj (uK l op en sz o):=by
 unfold BQ uK
 cases ho:o.1 with
 |false=>rfl
 |
  true =>
  obtain ⟨h1,h2⟩:=hok ho;have hfl:∀e,flP o e op=kj (cD e op):=λe=>by unfold flP;rw[h1];rfl
  have hck:∀x,ckP l op en sz o x=kj (if FR o.2.2.2.bc o.2.2.2.bn o.2.2.2.ic o.2.2.2.ix o.2.2.2.sc 0 sz=0 then XQ o.2.2.2 sz en x else cD 2 op):=λx=>by
   unfold ckP;rw[aN,hfl,i64_in (n:=en+1) (by omega) (by omega)]
   split<;>rfl
  show pick2 (eqI o.2.2.2.put.length 0) _ _=_;rw[hck,hck,hfl,hfl,av,aN,aI,cj hp,if_neg (show ¬true=false by decide)]
  by_cases hz:o.2.2.2.put=[]
  .
   rw[if_pos (by rw[hz];rfl),if_pos hz]
  rw[if_neg (by have:0<o.2.2.2.put.length:=List.length_pos_iff.2 hz;omega),if_neg hz]
  show ite _ _ _=_;by_cases h3:(ai o.2.2.2.put 0).2.2.1=0
  .
   rw[if_pos h3,if_neg (show ¬(ai o.2.2.2.put 0).2.2.1≠0 from λh=>h h3)]
   split<;>rfl
  rw[if_neg h3,if_pos h3]
theorem acC {l:List Tok} {op sz:Int} (hl:l.length<=200000) (h0:0<=op) (h1:op<l.length):plT l op sz=kj (gy l op sz):=by
 unfold plT gy
 simp only
 rw[i64_in (n:=op+1) (by omega) (by omega),i64_in (n:=op+2) (by omega) (by omega),cj (show l.length<=1000000 by omega),cn (show (0:Int)<=op+1 by omega),cn (show op+1<=(l.length:Int) by omega)]
 have iQ:pick2 (true && !false && !false) (pick2 (!(eK l (op+1)).isSome) (kj (cD 4 l.length))
  (pick2 (alB l op ((eK l (op+1)).getD 0)&&true&&true) (BQ l op ((eK l (op+1)).getD 0) sz (gx l op ((eK l (op+1)).getD 0) Qr)) none)) none=kj (match eK l (op+1) with
  |none=>cD 4 l.length
  |some en=>uK l op en sz (gx l op en Qr)):=by
  cases hc:eK l (op+1) with
  |none=>rfl
  |
   some en =>
   obtain ⟨c1,c2,c3⟩:=ya (by omega) (by omega) hc
   have hal:alB l op en=true:=by
    unfold alB;rw[cj hl,cn h0,cn (show op+1<=en by omega),jo c2,c3];rfl
   show pick2 (alB l op en&&true&&true) _ _=_;rw[hal];show BQ l op en sz (gx l op en Qr)=_;exact XS Nt (by have:=TP (s:=Qr) h0 c1 c2 rfl c3;omega) (by omega) (by omega)
 rw[iQ]
 have hrel:pick2 true (pick2 (!eqI (ai l (op+2)).2.2.1 0) (kj (cD (ai l (op+2)).2.2.1 (ai l (op+2)).2.2.2))
  (pick2 (!ltI (ai l (op+2)).2.1 0) (pick2 (!aT l (ai l (op+2)).2.1 [93]) (kj (cD 4 (ai l (op+2)).2.1))
   (kj ((2,(0,0),((8,0),(0,0),0,0,sz),(ai l (op+2)).1,true),IntKind.wrap .i64 ((ai l (op+2)).2.1+1),0,0))) none)) none=kj (if (ai l (op+2)).2.2.1≠0 then cD (ai l (op+2)).2.2.1 (ai l (op+2)).2.2.2
  else if aT l (ai l (op+2)).2.1 [93]=true then ahy (ai l (op+2)) sz else cD 4 (ai l (op+2)).2.1):=by
  show pick2 (!eqI (ai l (op+2)).2.2.1 0) _ _=_;rw[aN];by_cases h3:(ai l (op+2)).2.2.1=0
  .
   obtain ⟨q1,q2⟩:=o8 h3;rw[if_pos h3,if_neg (show ¬(ai l (op+2)).2.2.1≠0 from λh=>h h3),cn (by omega),i64_in (n:=(ai l (op+2)).2.1+1) (by omega) (by omega)]
   cases aT l (ai l (op+2)).2.1 [93]<;>rfl
  rw[if_neg h3,if_pos h3]
 rw[hrel,getI_at?,aI]
 cases cA:at? l (op+1) with
 |
  none =>
  have:=eA (by omega) cA
  rw[if_neg (by omega)];rfl
 |
  some y =>
  rw[if_pos (dL cA).2];show pick2 (gX y [114,101,108]) _ _=kj (if gX y [114,101,108]=true then _ else _);cases gX y [114,101,108]<;>rfl
def gV (f:List AV->Option (Bool×List AV)) (ins:List bP):Option (Bool×List bP×List bP) :=
 match F1 ins with
 |
  some vs=>match f vs with
  |some (c,ws)=>some (c,[],ws.map .val)
  |none=>none
 |none=>none
where F1:List bP->Option (List AV)
 |[]=>some []
 |
  .val v::l=>match F1 l with
  |some vs=>some (v::vs)
  |none=>none
 |.list _ _ _::_=>none
theorem rT:∀{ins:List bP} {vs:List AV},gV.F1 ins=some vs->ins=vs.map .val
 |[],vs,h=>by cases h;rfl
 |
  .val v::l,vs,h=>by
  unfold gV.F1 at h;split at h
  .
   rename_i vs' h1;cases h;rw[rT h1];rfl
  cases h
 |.list _ _ _::_,_,h=>by cases h
theorem uL:∀(l:List AV) (M:aa),aS M (l.map .val)=M
 |[],_=>rfl
 |_::l,M=>uL l M
theorem Ei {id:FuncId} (hk:lt.inl id=true) {M:List mQ} {N:List kB} (hM:bS X0 cq M) (hN:cR X0 cq N) {sig:List (Option (TypeId×Tv.Ty))} {f:List AV->Option (Bool×List AV)} (sg:List (List (Option Tv.Ty)))
 (h:∀vs ws,f vs=some (true,ws)->ws.all CV=true/\∃an rounds,ag X0 (cN M N _) an rounds id vs aa.empty (mB sg)=some ws):cu X0 cq id ⟨none,sig,gV f⟩ :=
 Tz (nk hk) (cg hM hN) sg λins outs rs hg=>by
  unfold gV at hg;split at hg
  case h_2=>cases hg
  rename_i vs hv;split at hg
  case h_2=>cases hg
  rename_i c ws hf;simp only[Option.some.injEq,Prod.mk.injEq] at hg;obtain ⟨rfl,_,rfl⟩:=hg;obtain ⟨h1,an,rounds,h2⟩:=h vs ws hf;have hi:=rT hv;subst hi;refine ⟨an,rounds,ws,?_,rfl,h1⟩;rw[qa,uL];exact h2
def fPl (args:List AV):Option (Bool×List AV) :=
 match args with
 |
  [L,.int .i64 op,.int .i64 sz]=>match zF aQ L with
  |some l=>some (Nat.ble l.length 200000 && !ltI op 0&&ltI op l.length,th (gy l op sz))
  |none=>none
 |_=>none
theorem Nu (r:TM):(th r).all CV=true:=rfl
theorem acD:cu X0 cq 92 ⟨none,[none,none,none],gV fPl⟩ :=
 Ei rfl rS Z4 sgR λvs ws hf=>by
  unfold fPl at hf;split at hf
  case h_2=>cases hf
  rename_i L op sz;split at hf
  case h_2=>cases hf
  rename_i l hl;simp only[Option.some.injEq,Prod.mk.injEq,Bool.and_eq_true,Bool.not_eq_true'] at hf;obtain ⟨⟨⟨g0,g1⟩,g2⟩,rfl⟩:=hf;have g0:=Nat.le_of_ble_eq_true g0;have g1:=CX g1;have g2:op<l.length:=by rw[ltI_spec] at g2;simpa using g2
  refine ⟨Nu _,bW,5,?_⟩;rw[bZ hl,XR,acC g0 g1 g2];rfl
def NP:List kB:=(92,⟨none,[none,none,none],gV fPl⟩)::NA
theorem Z5:cR X0 cq NP:=.cons acD Z4
end
end Go.Proofs.YtpaddkkfefgkfaaGreatDoor.ps

namespace Go.Proofs.YtpaddkkfefgkfaaGreatDoor.ps
open Go.Tv Go.Ev Go.Px Go.Pp Go.Proofs.YtpaddkkfefgkfaaGreatDoor.ex
set_option maxRecDepth 100000
noncomputable section
def mU (p:List Nd×Int×Int×Int):TM:=if p.2.2.1≠0 then cD p.2.2.1 p.2.2.2 else ((3,(0,0),((0,0),(0,0),0,0,0),p.1,false),p.2.1,0,0)
def acE (r:Rg) (a:Int):TM:=((1,r,((0,0),(0,0),0,0,0),[],false),a+1,0,0)
def aq (l:List Tok) (a:Int):TM :=
 if a<0\/(l.length:Int)<a then cD 2 0 else
 match at? l a with
 |none=>mU (ai l a)
 |
  some t=>match gZ rp t with
  |some r=>acE r a
  |
   none=>if 0<(eW t).1 then (if aT l (a+1) [91]=true then gy l (a+1) (eW t).1 else cD 4 (a+1))
   else if aT l a [91]=true then gy l a 0 else mU (ai l a)
def IL (l:List Tok) (a:Int):mS:=pick2 (Nat.ble l.length 1000000) (pick2 (!eqI (ai l a).2.2.1 0) (kj (cD (ai l a).2.2.1 (ai l a).2.2.2)) (kj ((3,(0,0),((0,0),(0,0),0,0,0),(ai l a).1,false),(ai l a).2.1,0,0))) none
def plB (l:List Tok) (a:Int):Bool:=Nat.ble l.length 200000 && !ltI a 0&&ltI a l.length
def JL (l:List Tok) (a:Int):mS :=
 pick2 (ltI a 0) (kj (cD 2 0)) (pick2 (ltI l.length a) (kj (cD 2 0)) (pick2 (ltI a l.length) (Option.rec (motive:=λ_=>mS) none (λt=>pick2 (gZ rp t).isSome
  (kj ((1,(gZ rp t).getD (0,0),((0,0),(0,0),0,0,0),[],false),IntKind.wrap .i64 (a+1),0,0))
  (Option.rec (motive:=λ_=>mS) none (λt=>pick2 (ltI 0 (eW t).1)
   (pick2 (!ltI (IntKind.wrap .i64 (a+1)) 0) (pick2 (!aT l (IntKind.wrap .i64 (a+1)) [91]) (kj (cD 4 (IntKind.wrap .i64 (a+1)))) (pick2 (plB l (IntKind.wrap .i64 (a+1))) (kj (gy l (IntKind.wrap .i64 (a+1)) (eW t).1)) none)) none)
   (pick2 (!ltI a 0) (pick2 (aT l a [91]) (pick2 (plB l a) (kj (gy l a 0)) none) (IL l a)) none)) (aO l a))) (aO l a)) (IL l a)))
theorem XT (l:List Tok) (a:Int):ag X0 (cN P2 NP _) bW 5 52 [.bF aQ l,.int .i64 a] aa.empty (mB sgR)=JL l a:=by kernel_rfl
theorem F2 {l:List Tok} {a:Int} (hl:l.length<=200000):IL l a=kj (mU (ai l a)):=by
 unfold IL mU
 rw[cj (show l.length<=1000000 by omega)]
 show pick2 (!eqI (ai l a).2.2.1 0) _ _=_
 rw[aN]
 by_cases h:(ai l a).2.2.1=0
 .
  rw[if_pos h,if_neg (show ¬(ai l a).2.2.1≠0 from λq=>q h)]
 rw[if_neg h,if_pos h]
theorem Lr {l:List Tok} {a:Int} (hl:l.length<=200000):JL l a=kj (aq l a):=by
 unfold JL aq
 rw[aI,aI,aI,F2 hl]
 by_cases h0:a<0
 .
  rw[if_pos h0,if_pos (.inl h0)]
 rw[if_neg h0]
 by_cases h1:(l.length:Int)<a
 .
  rw[if_pos h1,if_pos (.inr h1)]
 rw[if_neg h1,if_neg (show ¬(a<0\/(l.length:Int)<a) by omega),getI_at?]
 cases cA:at? l a with
 |
  none =>
  have:=eA (by omega) cA
  rw[if_neg (by omega)]
 |
  some t =>
  have hlt:=(dL cA).2;rw[if_pos hlt];simp only;rw[i64_in (n:=a+1) (by omega) (by omega),cn (show (0:Int)<=a+1 by omega),cn (show (0:Int)<=a by omega)]
  cases hr:gZ rp t with
  |some r=>rfl
  |
   none =>
   show pick2 (ltI 0 (eW t).1) _ _=_;rw[aI];simp only;by_cases hw:0<(eW t).1
   .
    rw[if_pos hw,if_pos hw];cases hs:aT l (a+1) [91] with
    |false=>rfl
    |
     true =>
     obtain ⟨c,hc,_⟩:=eS hs;have:=(dL hc).2;show pick2 (plB l (a+1)) _ _=_;unfold plB;rw[cj hl,cn (show (0:Int)<=a+1 by omega),jo this];rfl
   rw[if_neg hw,if_neg hw];show pick2 (aT l a [91]) _ _=_;cases hs:aT l a [91] with
   |false=>rfl
   |
    true =>
    show pick2 (plB l a) _ _=_;unfold plB;rw[cj hl,cn (show (0:Int)<=a by omega),jo hlt];rfl
def fOp (args:List AV):Option (Bool×List AV) :=
 match args with
 |
  [L,.int .i64 a]=>match zF aQ L with
  |some l=>some (Nat.ble l.length 200000,th (aq l a))
  |none=>none
 |_=>none
theorem Ls:cu X0 cq 52 ⟨none,[none,none],gV fOp⟩ :=
 Ei rfl rS Z5 sgR λvs ws hf=>by
  unfold fOp at hf;split at hf
  case h_2=>cases hf
  rename_i L a;split at hf
  case h_2=>cases hf
  rename_i l hl;simp only[Option.some.injEq,Prod.mk.injEq] at hf;obtain ⟨g0,rfl⟩:=hf;have g0:=Nat.le_of_ble_eq_true g0;refine ⟨Nu _,bW,5,?_⟩;rw[bZ hl,XT,Lr g0];rfl
def NQ:List kB:=(52,⟨none,[none,none],gV fOp⟩)::NP
theorem Z6:cR X0 cq NQ:=.cons Ls Z5
abbrev yb:=Int×Int×List Raw×Int×Int
def ahB (c:yb):List AV:=[.agg [.int .i64 c.1,.int .i64 c.2.1,.bF mg c.2.2.1],.agg [.int .i64 c.2.2.2.1,.int .i64 c.2.2.2.2]]
def o9 (c:yb):mS:=some (ahB c)
def JO (e f:Int):yb:=(0,0,[],e,f)
def sgC:List (List (Option Tv.Ty)):=[[none,none,some mg],[none,none]]
def pCm:List Bool:=[true,true,true,true,true,true,true,true,false]
def XU:bI:=⟨dP [0,4,5,6,8,9] pCm,.none,[]⟩
def fCm (l:List Tok) (op a:Int):cB:=iB 115 [(0,.bF aQ l),(4,.ptr 0 0),(5,.ptr 1 0),(6,.int .i64 op),(8,.ptr 2 0),(9,.int .i64 a)]
def mCm (op hint:Int) (arg:AV) (rows:List Row):aa:=jF ([.cells 34 [.int .i64 0,.int .i64 0,.bE],.cells 56 [.int .i64 0,.int .i64 0],.cells 34 [.int .i64 op,.int .i64 hint,arg]]++rows)
def TQ (l:List Tok) (op hint:Int) (r m:Nat) (a:Int):mS:=dQ X0 (cN P2 NQ _) XU r 41 pCm (mB sgC) m (fCm l op a) (mCm op hint .bE [])
def jCm (l:List Tok) (op hint:Int) (r m:Nat) (n:Nat) (a:Int) (args:List Raw):mS:=dQ X0 (cN P2 NQ _) XU r 41 pCm (mB sgC) m (fCm l op a) (mCm op hint (.own 3 n) [.list 99 mg args 0 false false])
def F3 (l:List Tok) (op hint:Int) (J:Nat->Int->List Raw->mS) (a:Int) (args:List Raw):mS :=
 (λX:Raw->mS=>pick2 (Nat.ble l.length 200000) (pick2 (!eqI (aq l a).2.2.1 0) (o9 (JO (aq l a).2.2.1 (aq l a).2.2.2))
  (pick2 (eqI (aq l a).1.1 3) (pick2 (gD op) (X (4,(aq l a).1.2)) (X (aq l a).1)) (X (aq l a).1))) none)
 (λraw=>pick2 (Nat.ble (args.length+1) 1000000) (pick2 (eqI (aq l a).2.1 l.length) (o9 (op,hint,args++[raw],0,0))
  (pick2 (!ltI (aq l a).2.1 0) (pick2 (!aT l (aq l a).2.1 [44]) (o9 (JO 4 (aq l a).2.1)) (pick2 (eqI ((args.length+1:Nat):Int) 4) (o9 (JO 3 (aq l a).2.1))
   (J (args.length+1) (IntKind.wrap .i64 ((aq l a).2.1+1)) (args++[raw])))) none)) none)
theorem XV (l:List Tok) (op hint:Int) (r m:Nat) (a:Int):TQ l op hint r (m+1) a=F3 l op hint (λn a args=>jCm l op hint r m n a args) a []:=by kernel_rfl
theorem acF (l:List Tok) (op hint:Int) (r m n:Nat) (a:Int) (args:List Raw):jCm l op hint r (m+1) n a args=F3 l op hint (λn a args=>jCm l op hint r m n a args) a args:=by kernel_rfl
def cmT (l:List Tok) (a:Int) (J:Int->Int->Int->mS):mS :=
 pick2 (ltI a 0) (o9 (JO 2 0)) (pick2 (ltI l.length a) (o9 (JO 2 0)) (pick2 (!ltI a 0) (pick2 (!(C3 l a).2) (o9 (JO 6 a))
  ((
   λgo:Int->Int->mS=>pick2 (ltI (IntKind.wrap .i64 (a+1)) l.length) (Option.rec (motive:=λ_=>mS) none (λt=>pick2 (!eqI (eW t).2 0) (go (eW t).2 (IntKind.wrap .i64 (IntKind.wrap .i64 (a+1)+1))) (go 0 (IntKind.wrap .i64 (a+1)))) (aO l (IntKind.wrap .i64 (a+1)))) (go 0 (IntKind.wrap .i64 (a+1))))
   (λhint b=>pick2 (eqI b l.length) (o9 ((C3 l a).1,hint,[],0,0)) (J (C3 l a).1 hint b)))) none))
theorem XW (l:List Tok) (a:Int) (r:Nat):ag X0 (cN P2 NQ _) XU r 41 [.bF aQ l,.int .i64 a] aa.empty (mB sgC)=cmT l a (λop hint b=>TQ l op hint r r b):=by kernel_rfl
def ko (op:Int) (w:Raw):Raw:=if w.1=3/\gD op=true then (4,w.2) else w
def zP (l:List Tok) (op hint:Int):Nat->Int->List Raw->Option yb
 |0,_,_=>none
 |
  n+1,a,args =>
  if (aq l a).2.2.1≠0 then some (JO (aq l a).2.2.1 (aq l a).2.2.2)
  else if (aq l a).2.1=l.length then some (op,hint,args++[ko op (aq l a).1],0,0)
  else if aT l (aq l a).2.1 [44]=false then some (JO 4 (aq l a).2.1)
  else if args.length+1=4 then some (JO 3 (aq l a).2.1)
  else zP l op hint n ((aq l a).2.1+1) (args++[ko op (aq l a).1])
def Lt (l:List Tok) (op h a:Int):yb :=
 if (if h=0 then a+1 else a+2)=(l.length:Int) then (op,h,[],0,0) else (zP l op h 5 (if h=0 then a+1 else a+2) []).getD (JO 0 0)
def kY (l:List Tok) (a:Int):Int:=match at? l (a+1) with
 |some t=>(eW t).2
 |none=>0
def az (l:List Tok) (a:Int):yb :=
 if a<0\/(l.length:Int)<a then JO 2 0
 else if (C3 l a).2=false then JO 6 a
 else Lt l (C3 l a).1 (kY l a) a
theorem oh {l:List Tok} {i:Int} (h0:0<=i) (h1:i<l.length):∃t,at? l i=some t:=by
 cases cA:at? l i with
 |some t=>exact ⟨t,rfl⟩
 |none=>have:=eA h0 cA;omega
theorem TR {l:List Tok} {sg:List UInt8} {a b:Int} {s:TS} (h0:0<=a) (hb:b<=l.length) (h:(gh rp l sg a b s).1=false):(gh rp l sg a b s).2.1≠0:=by
 have key:∀o:kC,(∃s e f,e≠0/\o=eR s e f)\/(∃s,o=okO s)->o.1=false->o.2.1≠0:=λo ho h=>by
  rcases ho with ⟨s,e,f,he,rfl⟩|⟨s,rfl⟩
  .
   exact he
  cases h
 have hal:∀r,(∃s' e f,e≠0/\gw sg r a s=eR s' e f)\/(∃s',gw sg r a s=okO s'):=λr=>by
  unfold gw;split
  .
   exact .inl ⟨_,_,_,by decide,rfl⟩
  split
  .
   exact .inr ⟨_,rfl⟩
  split
  .
   exact .inr ⟨_,rfl⟩
  exact .inl ⟨_,_,_,by decide,rfl⟩
 have hsc:∀r num n,(∃s' e f,e≠0/\dS sg r a num n s=eR s' e f)\/(∃s',dS sg r a num n s=okO s'):=λr num n=>by
  unfold dS;split
  .
   exact .inl ⟨_,_,_,by decide,rfl⟩
  split
  .
   exact .inr ⟨_,rfl⟩
  exact .inl ⟨_,_,_,by decide,rfl⟩
 refine key _ ?_ h
 unfold gh
 split
 .
  exact .inl ⟨_,_,_,by decide,rfl⟩
 split
 .
  obtain ⟨t,ht⟩:=oh (l:=l) (i:=a) h0 (by omega)
  rw[ht];simp only;split
  .
   exact hal _
  split
  .
   exact hal _
  exact .inr ⟨_,rfl⟩
 split
 .
  obtain ⟨t,ht⟩:=oh (l:=l) (i:=a) h0 (by omega)
  obtain ⟨u,hu⟩:=oh (l:=l) (i:=a+2) (by omega) (by omega)
  rw[ht,hu];simp only;split
  .
   split
   .
    exact hsc _ _ _
   split
   .
    exact hsc _ _ _
   exact .inr ⟨_,rfl⟩
  .
   split
   .
    exact hsc _ _ _
   exact .inr ⟨_,rfl⟩
  .
   split
   .
    exact hsc _ _ _
   exact .inr ⟨_,rfl⟩
  exact .inr ⟨_,rfl⟩
 exact .inr ⟨_,rfl⟩
theorem BX {l:List Tok} {en:Int} (hel:en<l.length):∀(m:Nat) (sg:List UInt8) (a:Int) (s:TS) (o:kC),0<=a->a<=en->Pp.iX rp l en m sg a s=some o->o.1=false->o.2.1≠0
 |0,_,_,_,_,_,_,h,_=>by cases h
 |
  m+1,sg,a,s,o,h0,h1,h,ho=>by
  obtain ⟨b1,b2⟩:=wo (l:=l) (a:=a) (e:=en) h0 h1 (by omega)
  have hb:=TR (l:=l) (sg:=sg) (a:=a) (b:=bN l a en) (s:=s) h0 (by omega)
  unfold Pp.iX at h;split at h
  .
   split at h
   .
    cases h;cases ho
   split at h
   .
    exact BX hel m _ _ _ o (by omega) (by omega) h ho
   cases h
  rename_i x f s' hs;cases h;rw[hs] at hb;exact hb rfl
theorem TT {l:List Tok} {op en:Int} {s:TS} (hl:l.length<=200000) (hs:s.put=[]) (h0:0<=op) (h1:op+1<=en) (h2:en<l.length) (hc:aT l en [93]=true) (h:(gx l op en s).1=false):(gx l op en s).2.1≠0:=by
 obtain ⟨ce,hce,V8⟩:=eS hc
 have key:∀r:Option kC,(∃o,r=some o)->(∀o,r=some o->o.1=false->o.2.1≠0)->(r.getD (eR s 0 0)).1=false->(r.getD (eR s 0 0)).2.1≠0:=λr ⟨o,ho⟩ h1 h2=>by
  subst ho;exact h1 o rfl h2
 have hput:∀a:Int,0<=a->(s.put.length:Int)<=4*a:=λa h=>by rw[hs];show (0:Int)<=_;omega
 unfold gx at h ⊢
 refine key _ ?_ (λo ho=>?_) h
 .
  split
  .
   rename_i Lq
   have:op+2<=en:=by
    by_cases he:en=op+1
    .
     exfalso;rw[he] at hce;rcases Lq with h|h<;>(obtain ⟨c2,k1,k2⟩:=eS h;rw[hce] at k1;cases k1;rw[BV V8 (by decide)] at k2;cases k2)
    omega
   obtain ⟨o,h3,_⟩:=FY (l:=l) (op:=op) (en:=en) (sz:=0) (r:=0) hl h2 (l.length+1) ((at? l (op+1)).getD CY).2.2.1 (op+2) s (by omega) this (hput _ (by omega)) (by omega)
   exact ⟨o,h3⟩
  obtain ⟨o,h3,_⟩:=FY (l:=l) (op:=op) (en:=en) (sz:=0) (r:=0) hl h2 (l.length+1) [43] (op+1) s (by omega) h1 (hput _ (by omega)) (by omega)
  exact ⟨o,h3⟩
 split at ho
 .
  rename_i Lq
  have:op+2<=en:=by
   by_cases he:en=op+1
   .
    exfalso;rw[he] at hce;rcases Lq with h|h<;>(obtain ⟨c2,k1,k2⟩:=eS h;rw[hce] at k1;cases k1;rw[BV V8 (by decide)] at k2;cases k2)
   omega
  exact BX h2 _ _ _ _ o (by omega) this ho
 exact BX h2 _ _ _ _ o (by omega) h1 ho
theorem Ej {l:List Tok} {op sz:Int} (hl:l.length<=200000) (h0:0<=op) (h1:op<l.length) (h:(gy l op sz).2.2.1=0):op<(gy l op sz).2.1/\(gy l op sz).2.1<=l.length:=by
 have hnone:∀e f,(cD e f).2.2.1=0->e=0:=λe f h=>h
 unfold gy at h ⊢
 split at h
 .
  rename_i hr;rw[if_pos hr];split at h
  .
   rename_i he;exact absurd h he
  rename_i he;have he:(ai l (op+2)).2.2.1=0:=Classical.not_not.1 he;obtain ⟨q1,q2⟩:=o8 he;rw[if_neg (λq=>q he)]
  split at h
  .
   rename_i hs;rw[if_pos hs];obtain ⟨c,hc,_⟩:=eS hs;have:=(dL hc).2;show op<(ai l (op+2)).2.1+1/\(ai l (op+2)).2.1+1<=_;omega
  cases h
 rename_i hr
 rw[if_neg hr]
 split at h
 .
  cases h
 rename_i en hc
 obtain ⟨c1,c2,c3⟩:=ya (by omega) (by omega) hc
 have key:∀o,(∀b,o.1=b->b=true->o.2.1=0/\o.2.2.1=0)->(uK l op en sz o).2.2.1=0->(uK l op en sz o).2.1=en+1\/(o.1=false/\o.2.1=0):=λo _ h=>by
  unfold uK at h ⊢;split at h
  .
   rename_i ho;exact .inr ⟨ho,h⟩
  rename_i ho;rw[if_neg ho]
  left
  split at h
  .
   rename_i hp;rw[if_pos hp];split at h
   .
    rename_i hm;rw[if_pos hm];rfl
   cases h
  rename_i hp;rw[if_neg hp];split at h
  .
   rename_i he;exact absurd h he
  rename_i he;rw[if_neg he];split at h
  .
   cases h
  rename_i hq;rw[if_neg hq];split at h
  .
   rename_i hm;rw[if_pos hm];rfl
  cases h
 rcases key (gx l op en Qr) (λb hb ht=>Nt (hb.trans ht)) h with hk|⟨k1,k2⟩
 .
  show op<(uK l op en sz (gx l op en Qr)).2.1/\(uK l op en sz (gx l op en Qr)).2.1<=_;rw[hk];omega
 exact absurd k2 (TT hl rfl h0 c1 c2 c3 k1)
theorem yU {l:List Tok} {a:Int} (hl:l.length<=200000) (h:(aq l a).2.2.1=0):0<=a/\a<(aq l a).2.1/\(aq l a).2.1<=l.length:=by
 have IM:(mU (ai l a)).2.2.1=0->a<(mU (ai l a)).2.1/\(mU (ai l a)).2.1<=l.length:=λh=>by
  unfold mU at h ⊢;split at h
  .
   rename_i he;exact absurd h he
  rename_i he;rw[if_neg he];exact o8 (Classical.not_not.1 he)
 unfold aq at h ⊢
 split at h
 .
  cases h
 rename_i h0
 rw[if_neg h0]
 refine ⟨by omega,?_⟩
 cases cA:at? l a with
 |none=>rw[cA] at h;exact IM h
 |
  some t =>
  rw[cA] at h;have hlt:=(dL cA).2;simp only at h ⊢;cases hr:gZ rp t with
  |some r=>show a<a+1/\a+1<=_;omega
  |
   none =>
   rw[hr] at h;simp only at h ⊢;split at h
   .
    rename_i hw;rw[if_pos hw];split at h
    .
     rename_i hs;rw[if_pos hs];obtain ⟨c,hc,_⟩:=eS hs;have:=(dL hc).2;have:=Ej hl (by omega) this h
     omega
    cases h
   rename_i hw;rw[if_neg hw];split at h
   .
    rename_i hs;rw[if_pos hs];exact Ej hl (by omega) hlt h
   rename_i hs;rw[if_neg hs];exact IM h
theorem Ek {l:List Tok} {op hint:Int} (hl:l.length<=200000) {m:Nat} {J:Nat->Int->List Raw->mS} {a:Int} {args:List Raw} (hn:args.length<=3)
 (ih:∀b,args.length+1<=3->∃c,zP l op hint m b (args++[ko op (aq l a).1])=some c/\J (args.length+1) b (args++[ko op (aq l a).1])=o9 c):∃c,zP l op hint (m+1) a args=some c/\F3 l op hint J a args=o9 c:=by
 unfold F3
 simp only
 rw[cj hl,cj (show args.length+1<=1000000 by omega)]
 have Mf:∀X:Raw->mS,(pick2 (eqI (aq l a).1.1 3) (pick2 (gD op) (X (4,(aq l a).1.2)) (X (aq l a).1)) (X (aq l a).1))=X (ko op (aq l a).1):=λX=>by
  rw[av];unfold ko;by_cases h3:(aq l a).1.1=3
  .
   rw[if_pos h3];cases gD op with
   |true=>rw[if_pos ⟨h3,rfl⟩]
   |false=>rw[if_neg (show ¬((aq l a).1.1=3/\false=true) from λh=>by cases h.2)]
  rw[if_neg h3,if_neg (show ¬((aq l a).1.1=3/\gD op=true) from λh=>h3 h.1)]
 have hX:=Mf (λraw=>pick2 true (pick2 (eqI (aq l a).2.1 l.length) (o9 (op,hint,args++[raw],0,0))
  (pick2 (!ltI (aq l a).2.1 0) (pick2 (!aT l (aq l a).2.1 [44]) (o9 (JO 4 (aq l a).2.1)) (pick2 (eqI ((args.length+1:Nat):Int) 4) (o9 (JO 3 (aq l a).2.1))
   (J (args.length+1) (IntKind.wrap .i64 ((aq l a).2.1+1)) (args++[raw])))) none)) none)
 refine (congrArg (λz=>∃c,zP l op hint (m+1) a args=some c/\pick2 true (pick2 (!eqI (aq l a).2.2.1 0) (o9 (JO (aq l a).2.2.1 (aq l a).2.2.2)) z) none=o9 c) hX).mpr ?_
 unfold zP
 show ∃c,_/\pick2 (!eqI (aq l a).2.2.1 0) _ _=_
 rw[aN]
 by_cases he:(aq l a).2.2.1=0
 .
  obtain ⟨q0,q1,q2⟩:=yU hl he;rw[if_pos he,if_neg (show ¬(aq l a).2.2.1≠0 from λh=>h he)]
  show ∃c,_/\pick2 (eqI (aq l a).2.1 l.length) _ _=_;rw[av];by_cases h1:(aq l a).2.1=l.length
  .
   rw[if_pos h1,if_pos h1];exact ⟨_,rfl,rfl⟩
  rw[if_neg h1,if_neg h1,cn (by omega),i64_in (n:=(aq l a).2.1+1) (by omega) (by omega)]
  show ∃c,_/\pick2 (!aT l (aq l a).2.1 [44]) _ _=_;cases aT l (aq l a).2.1 [44] with
  |false=>exact ⟨_,rfl,rfl⟩
  |
   true =>
   rw[if_neg (show ¬true=false by decide)]
   show ∃c,_/\pick2 (eqI ((args.length+1:Nat):Int) 4) _ _=_;rw[av];by_cases h4:args.length+1=4
   .
    rw[if_pos h4,if_pos (by omega)];exact ⟨_,rfl,rfl⟩
   rw[if_neg h4,if_neg (by omega)]
   exact ih _ (by omega)
 rw[if_neg he,if_pos he];exact ⟨_,rfl,rfl⟩
theorem TU {l:List Tok} {op hint:Int} (hl:l.length<=200000) {r:Nat}:∀(m:Nat) (a:Int) (args:List Raw),args.length<=3->4<=args.length+m->∃c,zP l op hint m a args=some c/\jCm l op hint r m args.length a args=o9 c
 |0,a,args,h1,h2=>by omega
 |
  m+1,a,args,h1,h2=>by
  rw[acF];refine Ek hl h1 λb hb=>?_
  have:=TU (op:=op) (hint:=hint) hl (r:=r) m b (args++[ko op (aq l a).1]) (by simp;omega) (by simp;omega)
  rw[show (args++[ko op (aq l a).1]).length=args.length+1 by simp] at this
  exact this
theorem XX {l:List Tok} {op hint:Int} (hl:l.length<=200000) {r:Nat} (a:Int):TQ l op hint r 5 a=o9 ((zP l op hint 5 a []).getD (JO 0 0)):=by
 rw[XV]
 obtain ⟨c,h1,h2⟩:=Ek (l:=l) (op:=op) (hint:=hint) hl (m:=4) (J:=λn a args=>jCm l op hint r 4 n a args) (a:=a) (args:=[]) (by simp) λb hb=>TU (op:=op) (hint:=hint) hl (r:=r) 4 b ([]++[ko op (aq l a).1]) (by simp) (by simp)
 rw[h1]
 exact h2
theorem acG {l:List Tok} {a:Int} (hl:l.length<=200000):cmT l a (λop hint b=>TQ l op hint 5 5 b)=o9 (az l a):=by
 unfold cmT az
 rw[aI,aI]
 by_cases h0:a<0
 .
  rw[if_pos h0,if_pos (.inl h0)]
 rw[if_neg h0,cn (by omega)]
 by_cases h1:(l.length:Int)<a
 .
  rw[if_pos h1,if_pos (.inr h1)]
 rw[if_neg h1,if_neg (show ¬(a<0\/(l.length:Int)<a) by omega)]
 show pick2 (!(C3 l a).2) _ _=_
 cases (C3 l a).2 with
 |false=>rfl
 |
  true =>
  rw[if_neg (show ¬true=false by decide)]
  show pick2 (ltI (IntKind.wrap .i64 (a+1)) l.length) _ _=_;rw[i64_in (n:=a+1) (by omega) (by omega),i64_in (n:=a+1+1) (by omega) (by omega),aI,getI_at?]
  have go:∀hint b:Int,(if hint=0 then a+1 else a+2)=b->(pick2 (eqI b l.length) (o9 ((C3 l a).1,hint,[],0,0)) (TQ l (C3 l a).1 hint 5 5 b))=o9 (Lt l (C3 l a).1 hint a):=λhint b hb=>by
   unfold Lt;rw[hb,av,XX hl];split<;>rfl
  have h0:=go 0 (a+1) rfl;cases cA:at? l (a+1) with
  |
   none =>
   have:=eA (by omega) cA
   have hh:kY l a=0:=by unfold kY;rw[cA]
   rw[if_neg (by omega),hh]
   exact h0
  |
   some t =>
   have hh:kY l a=(eW t).2:=by unfold kY;rw[cA]
   rw[if_pos (dL cA).2,hh];show pick2 (!eqI (eW t).2 0) _ _=_;rw[aN];by_cases hw:(eW t).2=0
   .
    rw[if_pos hw,hw];exact h0
   rw[if_neg hw];exact go _ _ (by rw[if_neg hw];omega)
def gCm (args:List AV):Option (Bool×List AV) :=
 match args with
 |
  [L,.int .i64 a]=>match zF aQ L with
  |some l=>some (Nat.ble l.length 200000,ahB (az l a))
  |none=>none
 |_=>none
theorem acH:cu X0 cq 41 ⟨none,[none,none],gV gCm⟩ :=
 Ei rfl rS Z6 sgC λvs ws hf=>by
  unfold gCm at hf;split at hf
  case h_2=>cases hf
  rename_i L a;split at hf
  case h_2=>cases hf
  rename_i l hl;simp only[Option.some.injEq,Prod.mk.injEq] at hf;obtain ⟨g0,rfl⟩:=hf;have g0:=Nat.le_of_ble_eq_true g0;refine ⟨rfl,XU,5,?_⟩;rw[bZ hl,XW,acG g0];rfl
def NC:List kB:=(41,⟨none,[none,none],gV gCm⟩)::NQ
theorem IP:cR X0 cq NC:=.cons acH Z6
end
end Go.Proofs.YtpaddkkfefgkfaaGreatDoor.ps
