/- Expressions: the setting of the laws on lines. Expressions: what a token alone is. Expressions: the contract of climb, as it calls itself. Expressions: the contract of climb. Expressions: the contract of Parse. -/
import Derived.Test.YtpaddkkfefgkfaaGreatDoorGrb
import Derived.Test.YtpaddkkfefgkfaaGreatDoorLyh
import Derived.Test.YtpaddkkfefgkfaaGreatDoorLyg
import Derived.Test.YtpaddkkfefgkfaaGreatDoorGxa
set_option linter.unusedVariables false
set_option linter.unusedSimpArgs false

namespace Go.Proofs.YtpaddkkfefgkfaaGreatDoor.ex
open Go.Tv Go.Ev
noncomputable section
abbrev X0:cI:=lt.Xg lt.iE
abbrev cg:=aY X0 lt.kn
abbrev bV:bG:=lt.bV
def cN (M:List nY) (N:List gJ) (β:Type):aT β:=Qc X0 (Me M) (YG N) lt.inl 400 β 40
theorem cV {M:List nY} {N:List gJ} (hM:cr X0 cg M) (hN:bS X0 cg N) (β:Type):aV X0 cg (cN M N β):=Qd hM hN (λf h args=>lt.aL h args) 400 40 β
theorem n0:bS X0 cg []:=.nil
abbrev ay:List UInt8->Bool:=lt.ay
def M3:List nY:=(16,[none],lt.YB)::(27,[none],lt.Yz)::(15,[none],lt.gNm)::lt.R1
theorem Gh:cr X0 cg M3:=.cons (lt.YC lt.iE) (.cons lt.adF (.cons (lt.We lt.iE) (lt.Wd lt.iE)))
end
end Go.Proofs.YtpaddkkfefgkfaaGreatDoor.ex

namespace Go.Proofs.YtpaddkkfefgkfaaGreatDoor.ex
open Go.Tv Go.Ev Go.Px
set_option maxRecDepth 100000
noncomputable section
def Qf (t:Tok):AV:=.agg [.int .i64 t.1,.int .i64 t.2.1,.str t.2.2.1,.int .i64 t.2.2.2]
def Qg (n:Nd):AV:=.agg [.int .i64 n.1,.int .i64 n.2.1,.str n.2.2.1,.int .i64 n.2.2.2.1,.int .i64 n.2.2.2.2]
def zNd:Nd:=(0,0,[],0,0)
abbrev aC:Ty:=.pair (.int .i64) (.pair (.int .i64) (.pair .str (.int .i64)))
abbrev bB:Ty:=.pair (.int .i64) (.pair (.int .i64) (.pair .str (.pair (.int .i64) (.int .i64))))
def sW (f:Tok->List bA) (args:List AV):Option (Bool×List bA) :=
 match args with
 |[.agg [.int .i64 k,.int .i64 n,.str s,.int .i64 a]]=>some (true,f (k,n,s,a))
 |_=>none
def YJ (args:List AV):Option (Bool×List bA) :=
 match args with
 |[.agg [.int .i64 k,.int .i64 n,.str s,.int .i64 a],.str t]=>some (true,[.val (.bool (eqI k 4&&decide (s=t)))])
 |_=>none
theorem T7:aO X0 cg 172 YJ :=
 aJ (λargs=>lt.aL rfl args) (cV Gh n0) λargs rs hg=>by
  unfold YJ at hg;split at hg
  .
   rename_i k n s a t;simp only[Option.some.injEq,Prod.mk.injEq] at hg;obtain ⟨h1,rfl⟩:=hg;refine ⟨[.bool (eqI k 4&&decide (s=t))],bV,5,?_,rfl,rfl⟩;have h:ag X0 (cN M3 [] AV) bV 5 172 [.agg [.int .i64 k,.int .i64 n,.str s,.int .i64 a],.str t] aa.empty (λv _=>some v)=pick2 (eqI k 4) (some (.bool (decide (s=t)))) (some (.bool false)):=by kernel_rfl
   rw[h];cases eqI k 4<;>rfl
  cases hg
def M4:List nY:=(172,[none,none],YJ)::M3
theorem KI:cr X0 cg M4:=.cons T7 Gh
theorem vS (k n a:Int) (s t:List UInt8):(eqI k 4&&decide (s=t))=jw (k,n,s,a) t:=by
 unfold jw
 have e:(k==4)=decide (k=4):=by rw[Bool.eq_iff_iff];simp
 rw[eqI_spec,e]
def Wh (t:Tok):List bA:=[.val (Qg ((vQ ay t).getD zNd)),.val (.bool (vQ ay t).isSome)]
theorem Qh:aO X0 cg 168 (sW Wh) :=
 aJ (λargs=>lt.aL rfl args) (cV KI n0) λargs rs hg=>by
  unfold sW at hg;split at hg
  .
   rename_i k n s a;simp only[Option.some.injEq,Prod.mk.injEq] at hg;obtain ⟨h1,rfl⟩:=hg;refine ⟨[Qg ((vQ ay (k,n,s,a)).getD zNd),.bool (vQ ay (k,n,s,a)).isSome],bV,5,?_,rfl,rfl⟩
   have h:ag X0 (cN M4 [] AV) bV 5 168 [.agg [.int .i64 k,.int .i64 n,.str s,.int .i64 a]] aa.empty (λv _=>some v) =
    pick2 (eqI k 2) (some (.cB [Qg (1,n,[],0,0),.bool true])) ((λrest=>pick2 (eqI k 1) (pick2 (ay s) (some (.cB [Qg (2,0,s,0,0),.bool true])) rest) rest)
     (pick2 (eqI k 4&&decide (s=[36])) (some (.cB [Qg (3,0,[],0,0),.bool true])) (pick2 (eqI k 4&&decide (s=[36,36])) (some (.cB [Qg (4,0,[],0,0),.bool true])) (some (.cB [Qg zNd,.bool false]))))):=by kernel_rfl
   rw[h,vS k n a,vS k n a];unfold vQ;simp only[aB];simp only[pick2_eq]
   have rest:(if jw (k,n,s,a) [36]=true then some (AV.cB [Qg (3,0,[],0,0),AV.bool true]) else if jw (k,n,s,a) [36,36]=true then some (AV.cB [Qg (4,0,[],0,0),AV.bool true]) else some (AV.cB [Qg zNd,AV.bool false])) =
    some (mh [Qg ((if jw (k,n,s,a) [36]=true then some (3,0,[],0,0) else if jw (k,n,s,a) [36,36]=true then some (4,0,[],0,0) else none).getD zNd),AV.bool (if jw (k,n,s,a) [36]=true then some ((3,0,[],0,0):Nd) else if jw (k,n,s,a) [36,36]=true then some (4,0,[],0,0) else none).isSome]):=by
    by_cases c4:jw (k,n,s,a) [36]=true
    .
     simp only[if_pos c4];rfl
    simp only[if_neg c4];by_cases c5:jw (k,n,s,a) [36,36]=true
    .
     simp only[if_pos c5];rfl
    simp only[if_neg c5];rfl
   by_cases c1:k=2
   .
    simp only[if_pos c1];rfl
   simp only[if_neg c1];by_cases c2:k=1
   .
    by_cases c3:ay s=true
    .
     simp only[if_pos c2,if_pos c3,if_pos (And.intro c2 c3)];rfl
    simp only[if_pos c2,if_neg c3,if_neg (λh:k=1/\ay s=true=>c3 h.2)];exact rest
   simp only[if_neg c2,if_neg (λh:k=1/\ay s=true=>c2 h.1)];exact rest
  cases hg
def Wi (t:Tok):List bA:=[.val (.int .i64 ((pref t).getD 0)),.val (.bool (pref t).isSome)]
theorem Qi:aO X0 cg 169 (sW Wi) :=
 aJ (λargs=>lt.aL rfl args) (cV KI n0) λargs rs hg=>by
  unfold sW at hg;split at hg
  .
   rename_i k n s a;simp only[Option.some.injEq,Prod.mk.injEq] at hg;obtain ⟨h1,rfl⟩:=hg;refine ⟨[.int .i64 ((pref (k,n,s,a)).getD 0),.bool (pref (k,n,s,a)).isSome],bV,5,?_,rfl,rfl⟩
   have h:ag X0 (cN M4 [] AV) bV 5 169 [.agg [.int .i64 k,.int .i64 n,.str s,.int .i64 a]] aa.empty (λv _=>some v) =
    pick2 (eqI k 4&&decide (s=[45])) (some (.cB [.int .i64 5,.bool true])) (pick2 (eqI k 4&&decide (s=[126])) (some (.cB [.int .i64 6,.bool true])) (pick2 (eqI k 4&&decide (s=[43])) (some (.cB [.int .i64 0,.bool true])) (some (.cB [.int .i64 0,.bool false])))):=by kernel_rfl
   rw[h,vS k n a,vS k n a,vS k n a];unfold pref;simp only[pick2_eq];by_cases c1:jw (k,n,s,a) [45]=true
   .
    simp only[if_pos c1];rfl
   simp only[if_neg c1];by_cases c2:jw (k,n,s,a) [126]=true
   .
    simp only[if_pos c2];rfl
   simp only[if_neg c2];by_cases c3:jw (k,n,s,a) [43]=true
   .
    simp only[if_pos c3];rfl
   simp only[if_neg c3];rfl
  cases hg
def adR (t:Tok):List bA:=[.val (.int .i64 (Px.bin t).1),.val (.int .i64 (Px.bin t).2)]
theorem T8:aO X0 cg 173 (sW adR) :=
 aJ (λargs=>lt.aL rfl args) (cV KI n0) λargs rs hg=>by
  unfold sW at hg;split at hg
  .
   rename_i k n s a;simp only[Option.some.injEq,Prod.mk.injEq] at hg;obtain ⟨h1,rfl⟩:=hg;refine ⟨[.int .i64 (Px.bin (k,n,s,a)).1,.int .i64 (Px.bin (k,n,s,a)).2],bV,5,?_,rfl,rfl⟩
   have h:ag X0 (cN M4 [] AV) bV 5 173 [.agg [.int .i64 k,.int .i64 n,.str s,.int .i64 a]] aa.empty (λv _=>some v) =
    pick2 (!eqI k 4) (some (.cB [.int .i64 0,.int .i64 0])) (List.rec (motive:=λ_=>Option AV) (some (.cB [.int .i64 0,.int .i64 0])) (λq _ r=>pick2 (decide (s=q.1)) (some (.cB [.int .i64 q.2.1,.int .i64 q.2.2])) r) adQ):=by kernel_rfl
   rw[h,aG]
   have key:∀m:List (List UInt8×Int×Int),(List.rec (motive:=λ_=>Option AV) (some (.cB [.int .i64 0,.int .i64 0])) (λq _ r=>pick2 (decide (s=q.1)) (some (.cB [.int .i64 q.2.1,.int .i64 q.2.2])) r) m:Option AV)=some (.cB [.int .i64 (ek s m).1,.int .i64 (ek s m).2]):=by
    intro m
    induction m with
    |nil=>rfl
    |
     cons q m ih =>
     show pick2 (decide (s=q.1)) _ (List.rec (motive:=λ_=>Option AV) _ _ m)=_
     rw[ih,ek];by_cases hq:s=q.1
     .
      rw[decide_eq_true hq,if_pos hq]
     rw[decide_eq_false hq,if_neg hq]
   rw[key];unfold Px.bin;by_cases c1:k=4
   .
    simp only[if_pos c1];rfl
   simp only[if_neg c1];rfl
  cases hg
def M5:List nY:=(168,[none],sW Wh)::(169,[none],sW Wi)::(173,[none],sW adR)::M4
theorem Ch:cr X0 cg M5:=.cons Qh (.cons Qi (.cons T8 KI))
end
end Go.Proofs.YtpaddkkfefgkfaaGreatDoor.ex

namespace Go.Proofs.YtpaddkkfefgkfaaGreatDoor.ex
open Go.Tv Go.Ev Go.Px
set_option maxRecDepth 100000
noncomputable section
def IW (e:Ty):AV->Option (List e.den)
 |.bF e' l=>eP e' e l
 |.bK=>some []
 |_=>none
def gCl (rec:List Tok->Int->St->fP) (ins:List bu):Option (Bool×List bu×List bu) :=
 match ins with
 |
  [.val L,.val (.int .i64 a),.val (.int .i64 d),.list t0 t x,.val (.int .i64 e),.val (.int .i64 f),.val (.int .i64 s)] =>
  match IW aC L,eP t bB x with
  |some l,some x=>some (Nat.beq t0 50&&Nat.ble l.length 1000000 && !ltI a 0 && !ltI l.length a && !ltI d 0 && !ltI 50 d&&Nat.ble x.length 200 && !ltI s 1 && !ltI 7 s&&(rec l s ⟨a,d,x,e,f⟩).isSome,
   [.val L,.val (.int .i64 ((rec l s ⟨a,d,x,e,f⟩).getD (false,⟨a,d,x,e,f⟩)).2.a),.val (.int .i64 ((rec l s ⟨a,d,x,e,f⟩).getD (false,⟨a,d,x,e,f⟩)).2.d),.list 50 bB ((rec l s ⟨a,d,x,e,f⟩).getD (false,⟨a,d,x,e,f⟩)).2.x,
    .val (.int .i64 ((rec l s ⟨a,d,x,e,f⟩).getD (false,⟨a,d,x,e,f⟩)).2.e),.val (.int .i64 ((rec l s ⟨a,d,x,e,f⟩).getD (false,⟨a,d,x,e,f⟩)).2.f)],
   [.val (.bool ((rec l s ⟨a,d,x,e,f⟩).getD (false,⟨a,d,x,e,f⟩)).1)])
  |_,_=>none
 |_=>none
def cCl (rec:List Tok->Int->St->fP):xE:=⟨some (200,[none,none,none,some (50,bB),none,none]),[none],gCl rec⟩
def N1 (rec:List Tok->Int->St->fP):List gJ:=[(138,cCl rec)]
abbrev Ck:=AV×List AV×Nat×Option Row
abbrev mC:=Option Ck
def kR (v:AV) (H:aa):mC :=
 match H.get 0 with
 |
  some (.cells t [c0,c1,c2,c3,c4,c5])=>match c3 with
  |.own id n=>pick2 (Nat.beq t 200) (some (v,[c0,c1,c2,c4,c5],n,H.get id)) none
  |_=>none
 |_=>none
def pCl:List Bool:=[true,true,true,true,true,true,true,false,false]
def Qj:bG:=⟨dG [0,1,4] pCl,.none,[]⟩
def Qk (l:List Row):aa:=l.foldl (λM r=>M.push r) ⟨0,0,1,.e⟩
def mCl (L:AV) (n:Nat) (st:St):aa:=Qk [.cells 200 [L,.int .i64 st.a,.int .i64 st.d,.own 1 n,.int .i64 st.e,.int .i64 st.f],.list 50 bB st.x 0 false false]
abbrev cC (rec:List Tok->Int->St->fP) (β:Type):aT β:=cN M5 (N1 rec) β
def jCl (rec:List Tok->Int->St->fP) (L:AV) (s:Int) (r m:Nat) (n:Nat) (st:St):mC:=dH X0 (cC rec _) Qj r 138 pCl kR m (hU 218 [(0,.ptr 0 0),(1,.int .i64 s),(4,.bool false)]) (mCl L n st)
def AK (rec:List Tok->Int->St->fP) (l:List Tok) (s:Int) (st:St):Bool:=true&&Nat.ble l.length 1000000 && !ltI st.a 0 && !ltI l.length st.a && !ltI st.d 0 && !ltI 50 st.d&&Nat.ble st.x.length 200 && !ltI s 1 && !ltI 7 s&&(rec l s st).isSome
def eI (rec:List Tok->Int->St->fP) (l:List Tok) (s:Int) (st:St):Bool×St:=(rec l s st).getD (false,st)
def vT (b:Bool) (L:AV) (st:St) (n:Nat):mC:=some (.bool b,[L,.int .i64 st.a,.int .i64 st.d,.int .i64 st.e,.int .i64 st.f],n,some (.list 50 bB st.x 0 false false))
def Cl (rec:List Tok->Int->St->fP) (L:AV) (l:List Tok) (s:Int) (st:St) (k:St->mC):mC :=
 pick2 (AK rec l s st&&true) (pick2 (!(eI rec l s st).1) (vT false L (eI rec l s st).2 (eI rec l s st).2.x.length) (k (eI rec l s st).2)) none
def Cm (L:AV) (st:St) (nd:Nd) (f:Int) (k:St->Nat->mC) (n:Nat):mC :=
 pick2 (eqI n 200) (vT false L { st with e:=3,f:=f } n) (pick2 (Nat.ble (st.x.length+1) 1000000) (k { st with x:=st.x++[nd] } (st.x.length+1)) none)
set_option maxRecDepth 100000 in
theorem YK (rec:List Tok->Int->St->fP) (l:List Tok) (s:Int) (r m n:Nat) (a d e f:Int) (x:List Nd):jCl rec (.bF aC l) s r (m+1) n ⟨a,d,x,e,f⟩ =
 pick2 (ltI a l.length) (Option.rec (motive:=λ_=>mC) none (λt=>pick2 (ltI (Px.bin t).2 s) (vT true (.bF aC l) ⟨a,d,x,e,f⟩ n)
  (Cl rec (.bF aC l) l (IntKind.wrap .i64 ((Px.bin t).2+1)) ⟨IntKind.wrap .i64 (a+1),d,x,e,f⟩ λo =>
   Cm (.bF aC l) o ((Px.bin t).1,0,[],IntKind.wrap .i64 (n-1),IntKind.wrap .i64 (o.x.length-1)) a (λo' n'=>jCl rec (.bF aC l) s r m n' o') o.x.length)) (aI l a)) (vT true (.bF aC l) ⟨a,d,x,e,f⟩ n):=by kernel_rfl
def sgT (t:Tok) (s:List UInt8):Bool:=eqI t.1 4&&decide (t.2.2.1=s)
def Cn (L:AV) (st:St) (k:St->mC) (n:Nat):mC :=
 pick2 (eqI st.d 50) (vT false L { st with e:=3,f:=st.a } n) (k { st with d:=IntKind.wrap .i64 (st.d+1),a:=IntKind.wrap .i64 (st.a+1) })
def Ql (L:AV) (a d e f:Int) (x:List Nd) (s:Int):List bu:=[.val L,.val (.int .i64 a),.val (.int .i64 d),.list 50 bB x,.val (.int .i64 e),.val (.int .i64 f),.val (.int .i64 s)]
def Qm (rec:List Tok->Int->St->fP) (l:List Tok) (st:St) (K:St->Nat->mC) (t:Tok):mC :=
 pick2 (vQ ay t).isSome (Cm (.bF aC l) { st with a:=IntKind.wrap .i64 (st.a+1) } ((vQ ay t).getD zNd) st.a K st.x.length)
  (pick2 (pref t).isSome (Cn (.bF aC l) st (λs1=>Cl rec (.bF aC l) l 7 s1 λo =>
   pick2 (!eqI ((pref t).getD 0) 0) (Cm (.bF aC l) { o with d:=IntKind.wrap .i64 (o.d-1) } ((pref t).getD 0,0,[],IntKind.wrap .i64 (o.x.length-1),0) st.a K o.x.length) (K { o with d:=IntKind.wrap .i64 (o.d-1) } o.x.length)) st.x.length)
   (pick2 (sgT t [40]) (Cn (.bF aC l) st (λs1=>Cl rec (.bF aC l) l 1 s1 λo =>
    pick2 (!ltI o.a l.length) (vT false (.bF aC l) { o with e:=4,f:=o.a } o.x.length) (Option.rec (motive:=λ_=>mC) none (λc=>pick2 (!sgT c [41]) (vT false (.bF aC l) { o with e:=4,f:=o.a } o.x.length)
     (K { o with d:=IntKind.wrap .i64 (o.d-1),a:=IntKind.wrap .i64 (o.a+1) } o.x.length)) (aI l o.a))) st.x.length)
    (vT false (.bF aC l) { st with e:=4,f:=st.a } st.x.length)))
set_option maxRecDepth 100000 in
theorem T9 (rec:List Tok->Int->St->fP) (l:List Tok) (s:Int) (r:Nat) (a d e f:Int) (x:List Nd) :
 ag X0 (cC rec Ck) Qj r 138 [.ptr 0 0,.int .i64 s] (ct 200 6 (Ql (.bF aC l) a d e f x s)) kR =
 pick2 (!ltI a l.length) (vT false (.bF aC l) ⟨a,d,x,4,a⟩ x.length) (Option.rec (motive:=λ_=>mC) none (Qm rec l ⟨a,d,x,e,f⟩ (λo n=>jCl rec (.bF aC l) s r r n o)) (aI l a)):=by kernel_rfl
end
end Go.Proofs.YtpaddkkfefgkfaaGreatDoor.ex

namespace Go.Proofs.YtpaddkkfefgkfaaGreatDoor.ex
open Go.Tv Go.Ev Go.Px
set_option maxRecDepth 100000
noncomputable section
theorem getI_at? {α:Type} (l:List α) (i:Int):aI l i=at? l i:=by cases i<;>rfl
structure BD (l:List Tok) (st:St):Prop where
 len:l.length<=1000000
 a0:0<=st.a
 a1:st.a<=(l.length:Int)
 d0:0<=st.d
 d1:st.d<=50
 x:st.x.length<=200
def Ns (L:AV):fP->mC
 |some (b,st)=>vT b L st st.x.length
 |none=>none
def zN (L:AV) (r:fP) (k:St->mC):mC :=
 match r with
 |some (true,o)=>k o
 |some (false,o)=>vT false L o o.x.length
 |none=>none
theorem Qn (L:AV) (r:fP) (k:St->fP):Ns L (IV r k)=zN L r λo=>Ns L (k o):=by
 unfold IV zN
 split<;>rfl
theorem bind_congr {L:AV} {r:fP} {k k':St->mC} (h:∀o,r=some (true,o)->k o=k' o):zN L r k=zN L r k':=by
 unfold zN
 split
 .
  exact h _ rfl
 .
  rfl
 rfl
section
variable {rec:List Tok->Int->St->fP} {l:List Tok}
theorem Gs {L:AV} {s:Int} {st:St} {k:St->mC} (h:BD l st) (h1:1<=s) (h7:s<=7):Cl rec L l s st k=zN L (rec l s st) k:=by
 unfold Cl AK eI zN
 rw[bO h.len,cF (h.a0),cF h.a1,cF h.d0,cF h.d1,bO h.x,cF h1,cF h7]
 cases hr:rec l s st with
 |none=>rfl
 |
  some q =>
  obtain ⟨b,o⟩:=q;cases b<;>rfl
theorem zP {L:AV} {st:St} {nd:Nd} {f:Int} {k:St->Nat->mC} {k':St->fP} (h:BD l st) (hk:st.x.length≠200->k { st with x:=st.x++[nd] } (st.x.length+1)=Ns L (k' { st with x:=st.x++[nd] })):Cm L st nd f k st.x.length=Ns L (mz st nd f k'):=by
 unfold Cm mz
 by_cases h2:st.x.length=200
 .
  rw[if_pos h2,wW (by omega)];rfl
 rw[if_neg h2,wX (by omega),bO (by have:=h.x;omega)]
 exact hk h2
theorem Qo {L:AV} {st:St} {k:St->mC} {k':St->fP} (h:BD l st) (ha:st.a<(l.length:Int)) (hk:st.d≠50->k { st with d:=st.d+1,a:=st.a+1 }=Ns L (k' { st with d:=st.d+1,a:=st.a+1 })):Cn L st k st.x.length=Ns L (mA st k'):=by
 unfold Cn mA
 have:=h.len
 have:=h.a0
 have:=h.d0
 have:=h.d1
 by_cases h2:st.d=50
 .
  rw[if_pos h2,wW h2];rfl
 rw[if_neg h2,wX h2,i64_in (n:=st.d+1) (by omega) (by omega),i64_in (n:=st.a+1) (by omega) (by omega)]
 exact hk h2
theorem Qp (t:Tok) (s:List UInt8):sgT t s=jw t s:=vS t.1 t.2.1 t.2.2.2 t.2.2.1 s
def Ua (rec:List Tok->Int->St->fP) (l:List Tok):Prop:=∀s st o,1<=s->BD l st->rec l s st=some (true,o)->Grown ay l st o
theorem BD.grown {st o:St} (h:BD l st) (g:Grown ay l st o):BD l o:=by
 obtain ⟨t,_,_,h3,h4,h5,_,_,h8⟩:=g
 exact ⟨h.len,by have:=h.a0;omega,h4,by rw[h5];exact h.d0,by rw[h5];exact h.d1,h8⟩
theorem Wj (hf:Ua rec l) (s:Int) (hs:1<=s) (r:Nat):∀(m:Nat) (st:St),BD l st->jCl rec (.bF aC l) s r m st.x.length st=Ns (.bF aC l) (fC l (rec l) s m st)
 |0,st,_=>rfl
 |
  m+1,⟨a,d,x,e,f⟩,h=>by
  have hlen:=h.len;have ha0:=h.a0;simp only at ha0;rw[show (⟨a,d,x,e,f⟩:St).x.length=x.length from rfl,YK,getI_at?];unfold fC;cases cH:at? l a with
  |
   none =>
   have hge:(l.length:Int)<=a:=by
    unfold at? at cH;split at cH
    .
     rename_i n;have:=List.getElem?_eq_none_iff.1 cH;simp;omega
    omega
   rw[cF hge];rfl
  |
   some t =>
   have hlt:=dm cH;rw[kW hlt.2];show pick2 (ltI (Px.bin t).2 s) _ _=_;simp only;rw[aW];by_cases hb:(Px.bin t).2<s
   .
    rw[if_pos hb,if_pos hb];rfl
   rw[if_neg hb,if_neg hb];have Wk:=Qe (t:=t) (by omega)
   have hbd:BD l ⟨a+1,d,x,e,f⟩:=⟨hlen,by show 0<=a+1;omega,by show a+1<=_;omega,h.d0,h.d1,h.x⟩
   rw[i64_in (n:=(Px.bin t).2+1) (by omega) (by omega),i64_in (n:=a+1) (by omega) (by omega),Gs hbd (by omega) (by omega),Qn]
   refine bind_congr λo ho=>?_
   have hg:=hbd.grown (hf _ _ _ (by omega) hbd ho)
   have hx:=h.x;simp only at hx;have hox:=hg.x;rw[i64_in (n:=(x.length:Int)-1) (by omega) (by omega),i64_in (n:=(o.x.length:Int)-1) (by omega) (by omega)]
   refine zP (l:=l) hg λhne=>?_
   have:=Wj hf s hs r m { o with x:=o.x++[((Px.bin t).1,0,[],(x.length:Int)-1,(o.x.length:Int)-1)] } ⟨hg.len,hg.a0,hg.a1,hg.d0,hg.d1,by show (o.x++[_]).length<=200;simp;omega⟩
   rw[show ({ o with x:=o.x++[((Px.bin t).1,0,[],(x.length:Int)-1,(o.x.length:Int)-1)] }:St).x.length=o.x.length+1 by simp] at this
   exact this
theorem Qq (hf:Ua rec l) {K:St->Nat->mC} {K':St->fP} (hK:∀o,BD l o->K o o.x.length=Ns (.bF aC l) (K' o)) {st:St} (h:BD l st) {t:Tok} (cH:at? l st.a=some t):Qm rec l st K t=Ns (.bF aC l) (kX ay l (rec l) st K'):=by
 have hlen:=h.len
 have ha0:=h.a0
 have hlt:=dm cH
 have hx:=h.x
 have Xf:=h.d0
 have Yw:=h.d1
 unfold Qm kX
 rw[cH]
 simp only
 cases ho:vQ ay t with
 |
  some n =>
  show Cm _ _ _ _ _ _=_;rw[i64_in (n:=st.a+1) (by omega) (by omega)]
  refine zP (l:=l) (st:={ st with a:=st.a+1 }) ⟨hlen,by show 0<=st.a+1;omega,by show st.a+1<=_;omega,Xf,Yw,hx⟩ λhne=>?_
  have hne:st.x.length≠200:=hne;have:=hK { st with a:=st.a+1,x:=st.x++[n] } ⟨hlen,by show 0<=st.a+1;omega,by show st.a+1<=_;omega,Xf,Yw,by show (st.x++[n]).length<=200;simp;omega⟩
  rw[show ({ st with a:=st.a+1,x:=st.x++[n] }:St).x.length=st.x.length+1 by simp] at this
  exact this
 |
  none =>
  show pick2 (pref t).isSome _ _=_;simp only
  have inner:∀(s:Int),1<=s->s<=7->∀(q:St->mC) (q':St->fP),(∀o,BD l o->o.d=st.d+1->q o=Ns (.bF aC l) (q' o))->Cn (.bF aC l) st (λs1=>Cl rec (.bF aC l) l s s1 q) st.x.length=Ns (.bF aC l) (mA st λs1=>IV (rec l s s1) q'):=λs h1 h7 q q' hq=>by
   refine Qo (l:=l) h hlt.2 λhne=>?_
   have hbd:BD l { st with d:=st.d+1,a:=st.a+1 }:=⟨hlen,by show 0<=st.a+1;omega,by show st.a+1<=_;omega,by show 0<=st.d+1;omega,by show st.d+1<=50;omega,hx⟩
   rw[Gs hbd h1 h7,Qn];refine bind_congr λo hr=>?_
   have hg:=hf _ _ _ h1 hbd hr;refine hq o (hbd.grown hg) ?_;obtain ⟨_,_,_,_,_,h5,_⟩:=hg;exact h5
  cases hp:pref t with
  |
   some op =>
   show Cn _ _ _ _=_;simp only;refine inner 7 (by decide) (by decide) _ _ λo Wk hod=>?_
   have hox:=Wk.x;have Mx:BD l { o with d:=o.d-1 }:=⟨hlen,Wk.a0,Wk.a1,by show 0<=o.d-1;omega,by show o.d-1<=50;omega,hox⟩
   show pick2 (!eqI op 0) _ _=_;rw[aG,i64_in (n:=o.d-1) (by omega) (by omega),i64_in (n:=(o.x.length:Int)-1) (by omega) (by omega)]
   by_cases h0:op=0
   .
    rw[if_pos h0,if_pos h0];exact hK _ Mx
   rw[if_neg h0,if_neg h0];refine zP (l:=l) (st:={ o with d:=o.d-1 }) Mx λhne=>?_
   have hne:o.x.length≠200:=hne;have:=hK { o with d:=o.d-1,x:=o.x++[(op,0,[],(o.x.length:Int)-1,0)] } ⟨hlen,Mx.a0,Mx.a1,Mx.d0,Mx.d1,by show (o.x++[_]).length<=200;simp;omega⟩
   rw[show ({ o with d:=o.d-1,x:=o.x++[(op,0,[],(o.x.length:Int)-1,0)] }:St).x.length=o.x.length+1 by simp] at this
   exact this
  |
   none =>
   show pick2 (sgT t [40]) _ _=_;rw[Qp,pick2_eq];by_cases h40:jw t [40]=true
   .
    rw[if_pos h40];simp only[h40,if_true];refine inner 1 (by decide) (by decide) _ _ λo Wk hod=>?_
    have hoa:=Wk.a0;have hol:=Wk.a1;rw[getI_at?];cases Ub:at? l o.a with
    |
     none =>
     have hge:(l.length:Int)<=o.a:=by
      unfold at? at Ub;split at Ub
      .
       rename_i n hn;have:=List.getElem?_eq_none_iff.1 Ub;rw[hn];simp;omega
      rename_i hn;rw[hn] at hoa;omega
     rw[cF hge];rfl
    |
     some c =>
     have YI:=dm Ub;rw[kW YI.2];show pick2 (!sgT c [41]) _ _=_;simp only;rw[Qp,i64_in (n:=o.d-1) (by omega) (by omega),i64_in (n:=o.a+1) (by omega) (by omega)]
     cases jw c [41] with
     |true=>exact hK { o with d:=o.d-1,a:=o.a+1 } ⟨hlen,by show 0<=o.a+1;omega,by show o.a+1<=_;omega,by show 0<=o.d-1;omega,by show o.d-1<=50;omega,Wk.x⟩
     |false=>rfl
   rw[if_neg h40];simp only[h40];rfl
end
theorem adU {rec:List Tok->Int->St->fP} {l:List Tok} (hf:Ua rec l) {st:St} (h:BD l st) {s:Int} (hs:1<=s) :
 ag X0 (cC rec Ck) Qj (l.length+1) 138 [.ptr 0 0,.int .i64 s] (ct 200 6 (Ql (.bF aC l) st.a st.d st.e st.f st.x s)) kR=Ns (.bF aC l) (kX ay l (rec l) st (fC l (rec l) s (l.length+1))):=by
 obtain ⟨a,d,x,e,f⟩:=st
 rw[T9,getI_at?]
 cases cH:at? l a with
 |
  none =>
  have ha0:=h.a0;simp only at ha0
  have hge:(l.length:Int)<=a:=by
   unfold at? at cH;split at cH
   .
    rename_i n;have:=List.getElem?_eq_none_iff.1 cH;simp;omega
   omega
  rw[cF hge];unfold kX;simp only[cH];rfl
 |
  some t =>
  have hlt:=dm cH;rw[kW hlt.2];exact Qq hf (λo ho=>Wj hf s hs _ _ o ho) h cH
set_option maxRecDepth 100000 in
theorem Qr (rec:List Tok->Int->St->fP) (s:Int) (r:Nat) (a d e f:Int) (x:List Nd) :
 ag X0 (cC rec Ck) Qj r 138 [.ptr 0 0,.int .i64 s] (ct 200 6 (Ql .bK a d e f x s)) kR=pick2 (!ltI a 0) (vT false .bK ⟨a,d,x,4,a⟩ x.length) none:=by kernel_rfl
theorem Wl {rec:List Tok->Int->St->fP} {L:AV} (hL:A8 L=true) {a d e f s:Int} {x:List Nd} (hN:bh X0 cg 138 (cCl rec)) {r:Nat} {b:Bool} {st:St}
 (h:ag X0 (cC rec Ck) Qj r 138 [.ptr 0 0,.int .i64 s] (ct 200 6 (Ql L a d e f x s)) kR=vT b L st st.x.length) :
 ∃vs M1 cs1,zJ X0 cg 138 [.ptr 0 0,.int .i64 s] (ct 200 6 (Ql L a d e f x s)) vs M1/\M1.get 0=some (.cells 200 cs1)/\cs1.length=6 /\
  kK M1 [0] (cs1++vs) [.val L,.val (.int .i64 st.a),.val (.int .i64 st.d),.list 50 bB st.x,.val (.int .i64 st.e),.val (.int .i64 st.f),.val (.bool b)]:=by
 obtain ⟨v,M1,h1,h2⟩:=kH (λargs=>lt.aL rfl args) (cV Ch (.cons hN .nil) Ck) h
 unfold kR at h1
 split at h1
 .
  rename_i t c0 c1 c2 c3 c4 c5 hg;split at h1
  .
   rename_i id n;rw[pick2_eq] at h1;split at h1
   .
    rename_i ht;obtain rfl:=Nat.eq_of_beq_eq_true ht;simp only[Option.some.injEq,Prod.mk.injEq,List.cons.injEq,and_true] at h1;obtain ⟨rfl,⟨rfl,rfl,rfl,rfl,rfl⟩,rfl,hrow⟩:=h1;refine ⟨[.bool b],M1,_,h2 [.bool b] rfl,hg,rfl,rfl,hL,rfl,rfl,rfl,rfl,.inl ⟨id,0,false,rfl,hrow,?_,rfl,rfl,rfl,rfl,rfl,rfl,trivial⟩⟩;intro hm;have:id=0:=by simpa using hm
    subst this;rw[hg] at hrow;cases hrow
   cases h1
  cases h1
 cases h1
theorem IX (k:Nat) (l:List Tok):Ua (λl=>bw ay l k) l:=λs st o h1 hb hr=>eR l k s st o h1 hb.x hb.a1 hr
theorem DW:∀k:Nat,bh X0 cg 138 (cCl λl=>bw ay l k)
 |
  0=>by
  intro ins outs rs hg;exfalso;have hg:gCl (λl=>bw ay l 0) ins=some (true,outs,rs):=hg
  unfold gCl at hg;split at hg
  .
   split at hg
   .
    simp[bw] at hg
   cases hg
  cases hg
 |
  k+1=>by
  intro ins outs rs hg;have hg:gCl (λl=>bw ay l (k+1)) ins=some (true,outs,rs):=hg
  unfold gCl at hg;split at hg
  case h_2=>cases hg
  rename_i L a d t0 t x e f s _;split at hg
  case h_2=>cases hg
  rename_i l x' hl hx;obtain ⟨rfl,hx2⟩:=aS hx;have hx2:x=x':=hx2;subst hx2;simp only[Option.some.injEq,Prod.mk.injEq,Bool.and_eq_true,Bool.not_eq_true'] at hg;obtain ⟨⟨⟨⟨⟨⟨⟨⟨⟨⟨g0,g1⟩,g2⟩,g3⟩,g4⟩,g5⟩,g6⟩,g7⟩,g8⟩,g9⟩,rfl,rfl⟩:=hg;obtain rfl:=Nat.eq_of_beq_eq_true g0;have A9:∀{p q:Int},ltI p q=false->q<=p:=λ{p q} h=>by rw[ltI_spec] at h;simpa using h
  have hbd:BD l ⟨a,d,x,e,f⟩:=⟨Nat.le_of_ble_eq_true g1,A9 g2,A9 g3,A9 g4,A9 g5,Nat.le_of_ble_eq_true g6⟩;obtain ⟨⟨b,st⟩,hr⟩:=Option.isSome_iff_exists.1 g9;rw[hr];have hc:bw ay l (k+1) s ⟨a,d,x,e,f⟩=kX ay l (bw ay l k) ⟨a,d,x,e,f⟩ (fC l (bw ay l k) s (l.length+1)):=rfl;cases L with
  |
   bF e' l0 =>
   obtain ⟨rfl,AF⟩:=aS hl;have AF:l0=l:=AF;subst AF;have hrun:=adU (rec:=λl=>bw ay l k) (IX k l0) hbd (A9 g7)
   rw[<-hc,hr] at hrun;exact λ_ _=>Wl rfl (DW k) hrun
  |
   bK =>
   have hl:some []=some l:=hl;cases hl;have ha:a=0:=by have:=hbd.a0;have:=hbd.a1;simp only[List.length_nil] at *;omega
   subst ha;have hrun:=Qr (λl=>bw ay l k) s 5 0 d e f x
   have Sx:(false,(⟨0,d,x,4,0⟩:St))=(b,st):=Option.some.inj (hc.symm.trans hr);cases Sx;exact λ_ _=>Wl rfl (DW k) hrun
  |_=>cases hl
end
end Go.Proofs.YtpaddkkfefgkfaaGreatDoor.ex

namespace Go.Proofs.YtpaddkkfefgkfaaGreatDoor.ex
open Go.Tv Go.Ev Go.Px
set_option maxRecDepth 100000
noncomputable section
def qp (v:AV) (H:aa):Option (AV×Option Row) :=
 match v with
 |.cB (.own i _::_)=>some (v,H.get i)
 |.own i _=>some (v,H.get i)
 |_=>some (v,none)
theorem zV {v:AV} {H:aa} {r:AV×Option Row} (h:qp v H=some r):v=r.1:=by
 unfold qp at h
 split at h<;>(cases h;rfl)
def ai (l:List Tok) (a:Int):List Nd×Int×Int×Int:=(jQ ay l a).getD ([],0,0,0)
def zW (e f:Int):Option (AV×Option Row):=some (.cB [.bK,.int .i64 0,.agg [.int .i64 e,.int .i64 f]],none)
def zX (x:List Nd) (n:Nat) (a:Int):Option (AV×Option Row):=some (.cB [.own 2 n,.int .i64 a,.agg [.int .i64 0,.int .i64 0]],some (.list 50 bB x 0 false false))
abbrev cM (M:List nY) (rec:List Tok->Int->St->fP) (β:Type):aT β:=cN M (N1 rec) β
set_option maxRecDepth 100000 in
theorem Uc (rec:List Tok->Int->St->fP) (l:List Tok) (a:Int) (r:Nat):ag X0 (cM M5 rec _) bV r 93 [.bF aC l,.int .i64 a] aa.empty qp =
 pick2 (ltI a 0) (zW 2 0) (pick2 (ltI l.length a) (zW 2 0) (pick2 (AK rec l 1 ⟨a,0,[],0,0⟩&&true) (pick2 (!(eI rec l 1 ⟨a,0,[],0,0⟩).1) (zW (eI rec l 1 ⟨a,0,[],0,0⟩).2.e (eI rec l 1 ⟨a,0,[],0,0⟩).2.f)
  (zX (eI rec l 1 ⟨a,0,[],0,0⟩).2.x (eI rec l 1 ⟨a,0,[],0,0⟩).2.x.length (eI rec l 1 ⟨a,0,[],0,0⟩).2.a)) none)):=by kernel_rfl
def gPs (args:List AV):Option (Bool×List bA) :=
 match args with
 |
  [L,.int .i64 a]=>match IW aC L with
  |some l=>some (Nat.ble l.length 1000000,[.list 50 bB (ai l a).1,.val (.int .i64 (ai l a).2.1),.val (.agg [.int .i64 (ai l a).2.2.1,.int .i64 (ai l a).2.2.2])])
  |none=>none
 |_=>none
theorem qY {e:Ty} {a:AV} {l:List e.den} (h:IW e a=some l):a = .bF e l\/(a = .bK/\l=[]):=by
 unfold IW at h
 split at h
 .
  obtain ⟨he,h2⟩:=aS h;subst he;have h2:_=l:=h2;subst h2;exact .inl rfl
 .
  cases h;exact .inr ⟨rfl,rfl⟩
 cases h
theorem Qv (rec:List Tok->Int->St->fP) (a:Int) (r:Nat):ag X0 (cM M5 rec _) bV r 93 [.bK,.int .i64 a] aa.empty qp =
 pick2 (ltI a 0) (zW 2 0) (pick2 (ltI 0 a) (zW 2 0) (pick2 (AK rec [] 1 ⟨a,0,[],0,0⟩&&true) (pick2 (!(eI rec [] 1 ⟨a,0,[],0,0⟩).1) (zW (eI rec [] 1 ⟨a,0,[],0,0⟩).2.e (eI rec [] 1 ⟨a,0,[],0,0⟩).2.f)
  (zX (eI rec [] 1 ⟨a,0,[],0,0⟩).2.x (eI rec [] 1 ⟨a,0,[],0,0⟩).2.x.length (eI rec [] 1 ⟨a,0,[],0,0⟩).2.a)) none)):=by kernel_rfl
theorem YL:aO X0 cg 93 gPs:=by
 intro args rs hg
 unfold gPs at hg
 split at hg
 case h_2=>cases hg
 rename_i L a
 split at hg
 case h_2=>cases hg
 rename_i l hl
 simp only[Option.some.injEq,Prod.mk.injEq] at hg
 obtain ⟨hb,rfl⟩:=hg
 have hb:=Nat.le_of_ble_eq_true hb
 have hrun:ag X0 (cM M5 (λl0=>bw ay l0 (l.length+1)) _) bV 5 93 [L,.int .i64 a] aa.empty qp =
  if (ai l a).2.2.1=0 then zX (ai l a).1 (ai l a).1.length (ai l a).2.1 else zW (ai l a).2.2.1 (ai l a).2.2.2:=by
  have e:ag X0 (cM M5 (λl0=>bw ay l0 (l.length+1)) _) bV 5 93 [L,.int .i64 a] aa.empty qp =
   pick2 (ltI a 0) (zW 2 0) (pick2 (ltI l.length a) (zW 2 0) (pick2 (AK (λl0=>bw ay l0 (l.length+1)) l 1 ⟨a,0,[],0,0⟩&&true) (pick2 (!(eI (λl0=>bw ay l0 (l.length+1)) l 1 ⟨a,0,[],0,0⟩).1) (zW (eI (λl0=>bw ay l0 (l.length+1)) l 1 ⟨a,0,[],0,0⟩).2.e (eI (λl0=>bw ay l0 (l.length+1)) l 1 ⟨a,0,[],0,0⟩).2.f)
    (zX (eI (λl0=>bw ay l0 (l.length+1)) l 1 ⟨a,0,[],0,0⟩).2.x (eI (λl0=>bw ay l0 (l.length+1)) l 1 ⟨a,0,[],0,0⟩).2.x.length (eI (λl0=>bw ay l0 (l.length+1)) l 1 ⟨a,0,[],0,0⟩).2.a)) none)):=by
   rcases qY hl with rfl|⟨rfl,rfl⟩
   .
    exact Uc _ l a 5
   exact Qv _ a 5
  rw[e,aW,aW];have key:∀r,jQ ay l a=some r->ai l a=r:=λr h=>by unfold ai;rw[h];rfl
  by_cases h1:a<0
  .
   rw[if_pos h1,key ([],0,2,0) (by unfold jQ;rw[if_pos (Or.inl h1)])];rfl
  rw[if_neg h1];by_cases h2:(l.length:Int)<a
  .
   rw[if_pos h2,key ([],0,2,0) (by unfold jQ;rw[if_pos (Or.inr h2)])];rfl
  rw[if_neg h2];have hno:¬(a<0\/(l.length:Int)<a):=by omega
  have hbd:BD l ⟨a,0,[],0,0⟩:=⟨hb,by show 0<=a;omega,by show a<=_;omega,Int.le_refl 0,by show (0:Int)<=50;decide,by simp⟩
  obtain ⟨⟨b,st⟩,hr⟩:=mB (nm:=ay) l (l.length+1) 1 ⟨a,0,[],0,0⟩ (by decide) (by simp) hbd.a0 hbd.a1 (by show _-a<_;omega)
  unfold AK eI;rw[bO hb,cF hbd.a0,cF hbd.a1,cF hbd.d0,cF hbd.d1,bO hbd.x];simp only[hr];cases b with
  |true=>rw[key (st.x,st.a,0,0) (by unfold jQ;rw[if_neg hno,hr])];rfl
  |
   false =>
   have hne:=x9 l _ _ _ st hr;rw[key ([],0,st.e,st.f) (by unfold jQ;rw[if_neg hno,hr])]
   simp only;rw[if_neg hne];rfl
 obtain ⟨r,hr⟩:=mD (nm:=ay) l a
 by_cases h0:(ai l a).2.2.1=0
 .
  rw[if_pos h0] at hrun;unfold zX at hrun;obtain ⟨v,M1,h1,h2⟩:=kH (λargs=>lt.aL rfl args) (cV Ch (.cons (DW (l.length+1)) .nil) (AV×Option Row)) hrun
  have hv:=zV h1;subst hv;refine ⟨_,M1,h2 [.own 2 (ai l a).1.length,.int .i64 (ai l a).2.1,.agg [.int .i64 0,.int .i64 0]] rfl,rfl,.inl ⟨2,0,false,rfl,?_,by simp,rfl,rfl,?_,rfl,trivial⟩⟩
  .
   exact (Prod.mk.inj (Option.some.inj h1)).2
  have hz:(ai l a).2.2.2=0:=by
   unfold ai at h0 ⊢;rw[hr] at h0 ⊢;unfold jQ at hr;split at hr
   .
    cases hr;exact absurd h0 (by decide)
   split at hr
   .
    cases hr;rfl
   .
    rename_i st hc;cases hr;exact absurd h0 (x9 l _ _ _ st hc)
   cases hr
  rw[h0,hz]
 rw[if_neg h0] at hrun
 unfold zW at hrun
 obtain ⟨v,M1,h1,h2⟩:=kH (λargs=>lt.aL rfl args) (cV Ch (.cons (DW (l.length+1)) .nil) (AV×Option Row)) hrun
 have hv:=zV h1
 subst hv
 have hz:(ai l a).1=[]/\(ai l a).2.1=0:=by
  unfold ai at h0 ⊢;rw[hr] at h0 ⊢;exact (uw (nm:=ay) (l:=l) (a:=a) hr).1 h0
 refine ⟨_,M1,h2 [.bK,.int .i64 0,.agg [.int .i64 (ai l a).2.2.1,.int .i64 (ai l a).2.2.2]] rfl,rfl,.inr ⟨rfl,hz.1,?_,rfl,rfl,rfl,trivial⟩⟩
 rw[hz.2]
def M6:List nY:=(93,[some aC,none],gPs)::M5
theorem qt:cr X0 cg M6:=.cons YL Ch
end
end Go.Proofs.YtpaddkkfefgkfaaGreatDoor.ex
