/- Instructions as they are told: contracts of parse.arg, parse.Inst, told. -/
import Derived.Test.YtpaddkkfefgkfaaGreatDoorIb
set_option linter.unusedVariables false
set_option linter.unusedSimpArgs false
namespace Go.Proofs.YtpaddkkfefgkfaaGreatDoor.ps.iq
open Go.Tv Go.Ev Go.Px Go.Pp Go.Proofs.YtpaddkkfefgkfaaGreatDoor.ex
set_option maxRecDepth 100000
noncomputable section
def U5:List kH:=(156,[some bW,some gN,none,none],gEv)::U4
theorem JO:cg ex.X0 cI U5:=.cons Xt acu
abbrev ArR:=Arg×Bool×Int
abbrev cD:=Option (List AV)
def QU:Mm:=((0,0),(0,0),0,0,0)
def Aq:Arg:=(0,(0,0),QU,0)
def qL (q:ArR):List AV:=[.agg (Tl q.1),.bool q.2.1,.int .i64 q.2.2]
def B4 (r:Raw) (n:Int) (p:Bool) (t:Int):ArR :=
 if r.1=2 then (if r.2.2.2.2=true then ((2,(0,0),(r.2.2.1.1,r.2.2.1.2.1,r.2.2.1.2.2.1,IntKind.wrap .i64 (n-t),r.2.2.1.2.2.2.2),0),true,0) else ((2,(0,0),(r.2.2.1.1,r.2.2.1.2.1,r.2.2.1.2.2.1,n,r.2.2.1.2.2.2.2),0),p,0))
 else if r.1=3 then (if 0<r.2.2.2.1.length then ((3,(0,0),QU,n),p,0) else (Aq,false,2))
 else if r.1=4 then (if 0<r.2.2.2.1.length then ((4,(0,0),QU,IntKind.wrap .i64 (n-t)),true,0) else (Aq,false,2)) else (Aq,false,2)
def ju (r:Raw) (l:List Sym) (h s t:Int):ArR :=
 if r.1=1 then ((1,r.2.1,QU,0),false,0)
 else if 0<r.2.2.2.1.length then (if (rf r.2.2.2.1 l h s).2.2≠0 then (Aq,false,(rf r.2.2.2.1 l h s).2.2) else B4 r (rf r.2.2.2.1 l h s).1 (rf r.2.2.2.1 l h s).2.1 t)
 else B4 r 0 false t
def JP (r:Raw) (n:Int) (p:Bool) (t:Int):cD :=
 pick2 (eqI r.1 2) (pick2 r.2.2.2.2 (some (qL ((2,(0,0),(r.2.2.1.1,r.2.2.1.2.1,r.2.2.1.2.2.1,IntKind.wrap .i64 (n-t),r.2.2.1.2.2.2.2),0),true,0))) (some (qL ((2,(0,0),(r.2.2.1.1,r.2.2.1.2.1,r.2.2.1.2.2.1,n,r.2.2.1.2.2.2.2),0),p,0))))
  (pick2 (eqI r.1 3) (pick2 (ltI 0 r.2.2.2.1.length) (some (qL ((3,(0,0),QU,n),p,0))) (some (qL (Aq,false,2))))
   (pick2 (eqI r.1 4) (pick2 (ltI 0 r.2.2.2.1.length) (some (qL ((4,(0,0),QU,IntKind.wrap .i64 (n-t)),true,0))) (some (qL (Aq,false,2)))) (some (qL (Aq,false,2)))))
def acv:List (List (Option Tv.Ty)):=[[none,none,none,none,none,none,none,none,none,none,none],[none],[none]]
theorem Yy (r:Raw) (l:List Sym) (h s t:Int):ag ex.X0 (cN U5 NC _) bK 5 111 [.agg (XO r),.bA gN l,.int .i64 h,.int .i64 s,.int .i64 t] aa.empty (pX acv) =
 pick2 (eqI r.1 1) (some (qL ((1,r.2.1,QU,0),false,0))) (pick2 (ltI 0 r.2.2.2.1.length) (pick2 (Nat.ble l.length 1000000) (pick2 (!eqI (rf r.2.2.2.1 l h s).2.2 0) (some (qL (Aq,false,(rf r.2.2.2.1 l h s).2.2))) (JP r (rf r.2.2.2.1 l h s).1 (rf r.2.2.2.1 l h s).2.1 t)) none) (JP r 0 false t)):=by kernel_rfl
theorem FL (r:Raw) (n:Int) (p:Bool) (t:Int):JP r n p t=some (qL (B4 r n p t)):=by
 unfold JP B4
 rw[az,az,az,aX,aX]
 by_cases h2:r.1=2
 .
  rw[if_pos h2,if_pos h2];cases r.2.2.2.2<;>rfl
 rw[if_neg h2,if_neg h2]
 by_cases h0:0<r.2.2.2.1.length
 .
  have h0':(0:Int)<(r.2.2.2.1.length:Int):=by omega
  rw[if_pos h0',if_pos h0];by_cases h3:r.1=3
  .
   rw[if_pos h3,if_pos h3]
  rw[if_neg h3,if_neg h3];by_cases h4:r.1=4
  .
   rw[if_pos h4,if_pos h4,if_pos h0',if_pos h0]
  rw[if_neg h4,if_neg h4]
 have h0':¬(0:Int)<(r.2.2.2.1.length:Int):=by omega
 rw[if_neg h0',if_neg h0]
 by_cases h3:r.1=3
 .
  rw[if_pos h3,if_pos h3]
 rw[if_neg h3,if_neg h3]
 by_cases h4:r.1=4
 .
  rw[if_pos h4,if_pos h4,if_neg h0',if_neg h0]
 rw[if_neg h4,if_neg h4]
def fAr (vs:List AV):Option (Bool×List AV) :=
 match ng [Tf,[some gN],[none],[none],[none]] vs with
 |
  [.agg A,L,.int .i64 h,.int .i64 s,.int .i64 t]=>match FH A,xh gN L with
  |some r,some l=>some (Nat.ble l.length 1000000,qL (ju r l h s t))
  |_,_=>none
 |_=>none
theorem Yz:dX ex.X0 cI 111 ⟨none,[none,none,none,none,none],gV fAr⟩ :=
 PN rfl JO UZ [Tf,[some gN],[none],[none],[none]] acv λvs ws hf=>by
  unfold fAr at hf;split at hf
  case h_2=>cases hf
  rename_i A L h s t hv;split at hf
  case h_2=>cases hf
  rename_i r l hr hl;simp only[Option.some.injEq,Prod.mk.injEq] at hf;obtain ⟨g0,rfl⟩:=hf;refine ⟨rfl,bK,5,?_⟩;have g0:Nat.ble (List.length (α:=Sym) l) 1000000=true:=g0;rw[hv,H8 hr,eF hl];refine (Yy r l h s t).trans ?_;rw[g0,FL,FL,az,aX];unfold ju;by_cases h1:r.1=1
  .
   rw[if_pos h1,if_pos h1]
  rw[if_neg h1,if_neg h1];by_cases h0:0<r.2.2.2.1.length
  .
   rw[if_pos (by omega),if_pos h0]
   show pick2 (!eqI _ 0) _ _=_;rw[aT];by_cases he:(rf r.2.2.2.1 l h s).2.2=0
   .
    rw[if_pos he,if_neg (λq=>q he)]
   rw[if_neg he,if_pos he]
  rw[if_neg (by omega),if_neg h0]
def NI1:List jo:=(111,⟨none,[none,none,none,none,none],gV fAr⟩)::NC
theorem Qa:eI ex.X0 cI NI1:=.cons Yz UZ
abbrev InR:=(Int×List Arg)×Bool×Int
def wD (q:InR):cD:=some [.agg (uk q.1.1 q.1.2),.bool q.2.1,.int .i64 q.2.2]
def iZ (op:Int) (l:List Sym) (h s t:Int):List Raw->List Arg->Bool->InR
 |[],acc,p=>if nX op acc≠0 then ((0,[]),false,nX op acc) else ((op,acc),p,0)
 |r::rest,acc,p=>if (ju r l h s t).2.2≠0 then ((0,[]),false,(ju r l h s t).2.2) else iZ op l h s t rest (acc++[(ju r l h s t).1]) (p||(ju r l h s t).2.1)
def TB:List (List (Option Tv.Ty)):=[[none,some j8],[none],[none]]
def pIn:List Bool:=[true,true,true,false,true,false]
def TC:bG:=⟨cG [1,2,3,4,10,13,14,25,26,27] pIn,.none,[]⟩
def acy (L:List Raw) (l:List Sym) (h s t:Int) (p:Bool) (i:Int):ck:=fY 64 [(1,.bA gN l),(2,.int .i64 h),(3,.int .i64 s),(4,.int .i64 t),(10,.ptr 0 0),(13,.ptr 1 0),(14,.bool p),(25,.bA jX L),(26,.int .i64 L.length),(27,.int .i64 i)]
def jT0 (op:Int) (L:List Raw) (l:List Sym) (h s t:Int) (q m:Nat) (p:Bool) (i:Int):cD:=cK ex.X0 (cN U5 NI1 _) TC q 67 pIn (pX TB) m (acy L l h s t p i) (iC [.cells 69 [.int .i64 0,.br],.cells 69 [.int .i64 op,.br]])
def jT1 (op:Int) (L:List Raw) (l:List Sym) (h s t:Int) (q m:Nat) (acc:List Arg) (n:Nat) (p:Bool) (i:Int):cD:=cK ex.X0 (cN U5 NI1 _) TC q 67 pIn (pX TB) m (acy L l h s t p i) (iC [.cells 69 [.int .i64 0,.br],.cells 69 [.int .i64 op,.own 2 n],.list 45 j8 acc 0 false false])
def agk (o:Option Raw) (k:Raw->cD):cD:=Option.rec (motive:=λ_=>cD) none k o
def DA (L:List Raw) (l:List Sym) (h s t:Int) (n:Nat) (p:Bool) (i:Int) (J:Arg->Bool->cD):cD :=
 agk (aS L i) λr=>pick2 (Nat.ble l.length 1000000) (pick2 (!eqI (ju r l h s t).2.2 0) (wD ((0,[]),false,(ju r l h s t).2.2))
  (pick2 p (pick2 (Nat.ble (n+1) 1000000) (J (ju r l h s t).1 true) none) (pick2 (Nat.ble (n+1) 1000000) (J (ju r l h s t).1 (ju r l h s t).2.1) none))) none
def FG (op:Int) (acc:List Arg) (p:Bool):cD:=pick2 (!eqI (nX op acc) 0) (wD ((0,[]),false,nX op acc)) (wD ((op,acc),p,0))
theorem Qb (op:Int) (L:List Raw) (l:List Sym) (h s t:Int) (q m:Nat) (acc:List Arg) (n:Nat) (p:Bool) (i:Int):jT1 op L l h s t q (m+1) acc n p i =
 pick2 (ltI i L.length) (DA L l h s t acc.length p i λa p=>jT1 op L l h s t q m (acc++[a]) (acc.length+1) p (IntKind.wrap .i64 (i+1))) (FG op acc p):=by kernel_rfl
theorem Qc (op:Int) (L:List Raw) (l:List Sym) (h s t:Int) (q m:Nat) (p:Bool) (i:Int):jT0 op L l h s t q (m+1) p i =
 pick2 (ltI i L.length) (DA L l h s t 0 p i λa p=>jT1 op L l h s t q m [a] 1 p (IntKind.wrap .i64 (i+1))) (FG op [] p):=by kernel_rfl
theorem TD (op hint:Int) (L:List Raw) (l:List Sym) (h s t:Int) (q:Nat):ag ex.X0 (cN U5 NI1 _) TC q 67 [.agg (Yb op hint L),.bA gN l,.int .i64 h,.int .i64 s,.int .i64 t] aa.empty (pX TB)=jT0 op L l h s t q q false 0:=by kernel_rfl
theorem JQ (op:Int) (acc:List Arg) (p:Bool) (l:List Sym) (h s t:Int):FG op acc p=wD (iZ op l h s t [] acc p):=by
 unfold FG iZ
 rw[aT]
 by_cases hc:nX op acc=0
 .
  rw[if_pos hc,if_neg (λq=>q hc)]
 rw[if_neg hc,if_pos hc]
theorem JR {L:List Raw} {l:List Sym} (hl:l.length<=1000000) {op h s t:Int} {n:Nat} (hn:n<=900000) {p:Bool} {i:Int} {r:Raw} {rest:List Raw} {acc:List Arg} (hg:aS L i=some r) {J:Arg->Bool->cD}
 (hJ:∀p',J (ju r l h s t).1 p'=wD (iZ op l h s t rest (acc++[(ju r l h s t).1]) p')):DA L l h s t n p i J=wD (iZ op l h s t (r::rest) acc p):=by
 unfold DA
 rw[hg]
 show pick2 (Nat.ble l.length 1000000) (pick2 (!eqI (ju r l h s t).2.2 0) _ (pick2 p (pick2 (Nat.ble (n+1) 1000000) _ none) (pick2 (Nat.ble (n+1) 1000000) _ none))) none=_
 rw[fG hl,fG (show n+1<=1000000 by omega),hJ,hJ,iZ]
 show pick2 (!eqI (ju r l h s t).2.2 0) _ (pick2 p _ _)=_
 rw[aT]
 by_cases he:(ju r l h s t).2.2=0
 .
  rw[if_pos he,if_neg (λq=>q he)]
  cases p<;>rfl
 rw[if_neg he,if_pos he]
theorem Qd {L:List Raw} (hL:L.length<=900000) {l:List Sym} (hl:l.length<=1000000) {op h s t:Int} {q:Nat}:∀(rest pre:List Raw) (m:Nat) (acc:List Arg) (p:Bool),L=pre++rest->rest.length<m->acc.length=pre.length->jT1 op L l h s t q m acc acc.length p pre.length=wD (iZ op l h s t rest acc p)
 |
  [],pre,m,acc,p,he,hm,ha=>by
  obtain ⟨m,rfl⟩:∃m',m=m'+1:=⟨m-1,by simp at hm;omega⟩
  have hl':L.length=pre.length:=by rw[he];simp
  rw[Qb,cA (by omega)]
  exact JQ op acc p l h s t
 |
  r::rest,pre,m,acc,p,he,hm,ha=>by
  obtain ⟨m,rfl⟩:∃m',m=m'+1:=⟨m-1,by simp at hm;omega⟩
  have hl':L.length=pre.length+(rest.length+1):=by rw[he];simp
  have hg:aS L (pre.length:Int)=some r:=by rw[he];exact eo pre rest r
  rw[Qb,kG (by omega),i64_in (n:=(pre.length:Int)+1) (by omega) (by omega)]
  refine JR hl (by omega) hg λp'=>?_
  have:=Qd hL hl (op:=op) (h:=h) (s:=s) (t:=t) (q:=q) rest (pre++[r]) m (acc++[(ju r l h s t).1]) p' (by rw[he];simp) (by simp at hm;omega) (by simp[ha])
  rw[List.length_append,List.length_append] at this;exact this
theorem YA {L:List Raw} (hL:L.length<=900000) {l:List Sym} (hl:l.length<=1000000) {op h s t:Int}:jT0 op L l h s t (L.length+1) (L.length+1) false 0=wD (iZ op l h s t L [] false):=by
 cases L with
 |
  nil =>
  rw[Qc,cA (by simp)]
  exact JQ op [] false l h s t
 |
  cons r rest =>
  rw[Qc,kG (by simp)]
  refine JR hl (by omega) (r:=r) rfl λp'=>?_
  exact Qd hL hl (op:=op) (h:=h) (s:=s) (t:=t) (q:=(r::rest).length+1) rest [r] (r::rest).length [(ju r l h s t).1] p' rfl (by simp) rfl
def fIn (vs:List AV):Option (Bool×List AV) :=
 match ng [Th,[some gN],[none],[none],[none]] vs with
 |
  [.agg [.int .i64 op,.int .i64 _,L],Y,.int .i64 h,.int .i64 s,.int .i64 t]=>match xh jX L,xh gN Y with
  |some L,some l=>some (Nat.ble l.length 1000000&&Nat.ble L.length 900000,[.agg (uk (iZ op l h s t L [] false).1.1 (iZ op l h s t L [] false).1.2),.bool (iZ op l h s t L [] false).2.1,.int .i64 (iZ op l h s t L [] false).2.2])
  |_,_=>none
 |_=>none
theorem TE:dX ex.X0 cI 67 ⟨none,[none,none,none,none,none],gV fIn⟩ :=
 PN rfl JO Qa [Th,[some gN],[none],[none],[none]] TB λvs ws hf=>by
  unfold fIn at hf;split at hf
  case h_2=>cases hf
  rename_i op hint L Y h s t hv;split at hf
  case h_2=>cases hf
  rename_i L l hL hl;simp only[Option.some.injEq,Prod.mk.injEq,Bool.and_eq_true] at hf;obtain ⟨⟨g0,g1⟩,rfl⟩:=hf;have g0:=Nat.le_of_ble_eq_true g0;have g1:=Nat.le_of_ble_eq_true g1;refine ⟨rfl,TC,L.length+1,?_⟩;rw[hv,eF hL,eF hl];exact (TD op hint L l h s t (L.length+1)).trans (YA g1 g0)
def NI2:List jo:=(67,⟨none,[none,none,none,none,none],gV fIn⟩)::NI1
theorem Qe:eI ex.X0 cI NI2:=.cons TE Qa
def jY:List Sym:=[([120],200,true)]
def um (c:Ap):InR:=iZ c.1 jY 100 0 110 c.2.2.1 [] false
def eR (s:List UInt8):(Int×List Arg)×Bool :=
 ((um (aF (lt.bM s).1 0)).1,decide ((lt.bM s).2.1=0)&&decide ((aF (lt.bM s).1 0).2.2.2.1=0)&&decide ((um (aF (lt.bM s).1 0)).2.2=0))
def acz:List (List (Option Tv.Ty)):=[[none,some j8],[none]]
def toT (s:List UInt8):cD :=
 pick2 (Nat.ble (lt.bM s).1.length 200000) (pick2 (Nat.ble 1 1000000&&Nat.ble (aF (lt.bM s).1 0).2.2.1.length 900000)
  (pick2 (eqI (lt.bM s).2.1 0) (pick2 (eqI (aF (lt.bM s).1 0).2.2.2.1 0) (some [.agg (uk (um (aF (lt.bM s).1 0)).1.1 (um (aF (lt.bM s).1 0)).1.2),.bool (eqI (um (aF (lt.bM s).1 0)).2.2 0)])
   (some [.agg (uk (um (aF (lt.bM s).1 0)).1.1 (um (aF (lt.bM s).1 0)).1.2),.bool false])) (some [.agg (uk (um (aF (lt.bM s).1 0)).1.1 (um (aF (lt.bM s).1 0)).1.2),.bool false])) none) none
theorem YB (s:List UInt8):ag ex.X0 (cN U5 NI2 _) bK 5 35 [.str s] aa.empty (pX acz)=toT s:=by kernel_rfl
def fTo (vs:List AV):Option (Bool×List AV) :=
 match vs with
 |[.str s]=>some (true,[.agg (uk (eR s).1.1 (eR s).1.2),.bool (eR s).2])
 |_=>none
theorem YC:dX ex.X0 cI 35 ⟨none,[none],gV fTo⟩ :=
 JG rfl JO Qe acz λvs ws hf=>by
  unfold fTo at hf;split at hf
  case h_2=>cases hf
  rename_i s;simp only[Option.some.injEq,Prod.mk.injEq] at hf;obtain ⟨_,rfl⟩:=hf;refine ⟨rfl,bK,5,?_⟩;rw[YB];have h1:=PM s;obtain ⟨h2,_⟩:=FJ (lt.bM s).1 0;unfold toT eR;rw[fG (by omega),fG (show (aF (lt.bM s).1 0).2.2.1.length<=900000 by omega)]
  show pick2 (eqI (lt.bM s).2.1 0) _ _=_;rw[az];by_cases e1:(lt.bM s).2.1=0
  .
   rw[if_pos e1,decide_eq_true e1,az];by_cases e2:(aF (lt.bM s).1 0).2.2.2.1=0
   .
    rw[if_pos e2,decide_eq_true e2,eqI_spec];simp only[Bool.true_and];rw[show ∀z:Int,(z==0)=decide (z=0) from λz=>by rw[Bool.eq_iff_iff];simp]
   rw[if_neg e2,decide_eq_false e2];rfl
  rw[if_neg e1,decide_eq_false e1];rfl
def JS:List jo:=(35,⟨none,[none],gV fTo⟩)::NI2
theorem Ib:eI ex.X0 cI JS:=.cons YC Qe
end
end Go.Proofs.YtpaddkkfefgkfaaGreatDoor.ps.iq
