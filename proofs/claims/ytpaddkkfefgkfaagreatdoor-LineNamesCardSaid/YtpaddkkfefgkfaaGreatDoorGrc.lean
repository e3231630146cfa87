/- Expressions: the setting of the laws on lines. Expressions: what a token alone is. Expressions: the contract of climb, as it calls itself. Expressions: the contract of climb. Expressions: the contract of Parse. -/
import Derived.Test.YtpaddkkfefgkfaaGreatDoorGrb
import Derived.Test.YtpaddkkfefgkfaaGreatDoorLyh
import Derived.Test.YtpaddkkfefgkfaaGreatDoorLyg
import Derived.Test.YtpaddkkfefgkfaaGreatDoorGxa
set_option linter.unusedVariables false
set_option linter.unusedSimpArgs false

namespace Go.Proofs.YtpaddkkfefgkfaaGreatDoor.ex
open Go.Tv Go.Ev
noncomputable section
abbrev X0:dF:=lt.Xg lt.gW
abbrev cq:=br X0 lt.kn
abbrev bW:bI:=lt.bW
def cN (M:List mQ) (N:List kB) (β:Type):bf β:=S5 X0 (O5 M) (ab4 N) lt.inl 400 β 40
theorem cg {M:List mQ} {N:List kB} (hM:bS X0 cq M) (hN:cR X0 cq N) (β:Type):aY X0 cq (cN M N β):=S6 hM hN (λf h args=>lt.aP h args) 400 40 β
theorem n0:cR X0 cq []:=.nil
abbrev ax:List UInt8->Bool:=lt.ax
def M3:List mQ:=(16,[none],lt.ab0)::(27,[none],lt.abY)::(15,[none],lt.gNm)::lt.R1
theorem Io:bS X0 cq M3:=.cons (lt.ab1 lt.gW) (.cons lt.ahd (.cons (lt.ZQ lt.gW) (lt.ZP lt.gW)))
end
end Go.Proofs.YtpaddkkfefgkfaaGreatDoor.ex

namespace Go.Proofs.YtpaddkkfefgkfaaGreatDoor.ex
open Go.Tv Go.Ev Go.Px
set_option maxRecDepth 100000
noncomputable section
def Te (t:Tok):AV:=.agg [.int .i64 t.1,.int .i64 t.2.1,.str t.2.2.1,.int .i64 t.2.2.2]
def Tf (n:Nd):AV:=.agg [.int .i64 n.1,.int .i64 n.2.1,.str n.2.2.1,.int .i64 n.2.2.2.1,.int .i64 n.2.2.2.2]
def zNd:Nd:=(0,0,[],0,0)
abbrev aQ:Ty:=.pair (.int .i64) (.pair (.int .i64) (.pair .str (.int .i64)))
abbrev cz:Ty:=.pair (.int .i64) (.pair (.int .i64) (.pair .str (.pair (.int .i64) (.int .i64))))
def uI (f:Tok->List bC) (args:List AV):Option (Bool×List bC) :=
 match args with
 |[.agg [.int .i64 k,.int .i64 n,.str s,.int .i64 a]]=>some (true,f (k,n,s,a))
 |_=>none
def ab7 (args:List AV):Option (Bool×List bC) :=
 match args with
 |[.agg [.int .i64 k,.int .i64 n,.str s,.int .i64 a],.str t]=>some (true,[.val (.bool (eqI k 4&&decide (s=t)))])
 |_=>none
theorem Xv:aK X0 cq 172 ab7 :=
 aH (λargs=>lt.aP rfl args) (cg Io n0) λargs rs hg=>by
  unfold ab7 at hg;split at hg
  .
   rename_i k n s a t;simp only[Option.some.injEq,Prod.mk.injEq] at hg;obtain ⟨h1,rfl⟩:=hg;refine ⟨[.bool (eqI k 4&&decide (s=t))],bW,5,?_,rfl,rfl⟩;have h:ag X0 (cN M3 [] AV) bW 5 172 [.agg [.int .i64 k,.int .i64 n,.str s,.int .i64 a],.str t] aa.empty (λv _=>some v)=pick2 (eqI k 4) (some (.bool (decide (s=t)))) (some (.bool false)):=by kernel_rfl
   rw[h];cases eqI k 4<;>rfl
  cases hg
def M4:List mQ:=(172,[none,none],ab7)::M3
theorem Np:bS X0 cq M4:=.cons Xv Io
theorem xZ (k n a:Int) (s t:List UInt8):(eqI k 4&&decide (s=t))=iY (k,n,s,a) t:=by
 unfold iY
 have e:(k==4)=decide (k=4):=by rw[Bool.eq_iff_iff];simp
 rw[eqI_spec,e]
def ZU (t:Tok):List bC:=[.val (Tf ((qx ax t).getD zNd)),.val (.bool (qx ax t).isSome)]
theorem Tg:aK X0 cq 168 (uI ZU) :=
 aH (λargs=>lt.aP rfl args) (cg Np n0) λargs rs hg=>by
  unfold uI at hg;split at hg
  .
   rename_i k n s a;simp only[Option.some.injEq,Prod.mk.injEq] at hg;obtain ⟨h1,rfl⟩:=hg;refine ⟨[Tf ((qx ax (k,n,s,a)).getD zNd),.bool (qx ax (k,n,s,a)).isSome],bW,5,?_,rfl,rfl⟩
   have h:ag X0 (cN M4 [] AV) bW 5 168 [.agg [.int .i64 k,.int .i64 n,.str s,.int .i64 a]] aa.empty (λv _=>some v) =
    pick2 (eqI k 2) (some (.cG [Tf (1,n,[],0,0),.bool true])) ((λrest=>pick2 (eqI k 1) (pick2 (ax s) (some (.cG [Tf (2,0,s,0,0),.bool true])) rest) rest)
     (pick2 (eqI k 4&&decide (s=[36])) (some (.cG [Tf (3,0,[],0,0),.bool true])) (pick2 (eqI k 4&&decide (s=[36,36])) (some (.cG [Tf (4,0,[],0,0),.bool true])) (some (.cG [Tf zNd,.bool false]))))):=by kernel_rfl
   rw[h,xZ k n a,xZ k n a];unfold qx;simp only[av];simp only[pick2_eq]
   have rest:(if iY (k,n,s,a) [36]=true then some (AV.cG [Tf (3,0,[],0,0),AV.bool true]) else if iY (k,n,s,a) [36,36]=true then some (AV.cG [Tf (4,0,[],0,0),AV.bool true]) else some (AV.cG [Tf zNd,AV.bool false])) =
    some (kP [Tf ((if iY (k,n,s,a) [36]=true then some (3,0,[],0,0) else if iY (k,n,s,a) [36,36]=true then some (4,0,[],0,0) else none).getD zNd),AV.bool (if iY (k,n,s,a) [36]=true then some ((3,0,[],0,0):Nd) else if iY (k,n,s,a) [36,36]=true then some (4,0,[],0,0) else none).isSome]):=by
    by_cases c4:iY (k,n,s,a) [36]=true
    .
     simp only[if_pos c4];rfl
    simp only[if_neg c4];by_cases c5:iY (k,n,s,a) [36,36]=true
    .
     simp only[if_pos c5];rfl
    simp only[if_neg c5];rfl
   by_cases c1:k=2
   .
    simp only[if_pos c1];rfl
   simp only[if_neg c1];by_cases c2:k=1
   .
    by_cases c3:ax s=true
    .
     simp only[if_pos c2,if_pos c3,if_pos (And.intro c2 c3)];rfl
    simp only[if_pos c2,if_neg c3,if_neg (λh:k=1/\ax s=true=>c3 h.2)];exact rest
   simp only[if_neg c2,if_neg (λh:k=1/\ax s=true=>c2 h.1)];exact rest
  cases hg
def ZV (t:Tok):List bC:=[.val (.int .i64 ((pref t).getD 0)),.val (.bool (pref t).isSome)]
theorem Th:aK X0 cq 169 (uI ZV) :=
 aH (λargs=>lt.aP rfl args) (cg Np n0) λargs rs hg=>by
  unfold uI at hg;split at hg
  .
   rename_i k n s a;simp only[Option.some.injEq,Prod.mk.injEq] at hg;obtain ⟨h1,rfl⟩:=hg;refine ⟨[.int .i64 ((pref (k,n,s,a)).getD 0),.bool (pref (k,n,s,a)).isSome],bW,5,?_,rfl,rfl⟩
   have h:ag X0 (cN M4 [] AV) bW 5 169 [.agg [.int .i64 k,.int .i64 n,.str s,.int .i64 a]] aa.empty (λv _=>some v) =
    pick2 (eqI k 4&&decide (s=[45])) (some (.cG [.int .i64 5,.bool true])) (pick2 (eqI k 4&&decide (s=[126])) (some (.cG [.int .i64 6,.bool true])) (pick2 (eqI k 4&&decide (s=[43])) (some (.cG [.int .i64 0,.bool true])) (some (.cG [.int .i64 0,.bool false])))):=by kernel_rfl
   rw[h,xZ k n a,xZ k n a,xZ k n a];unfold pref;simp only[pick2_eq];by_cases c1:iY (k,n,s,a) [45]=true
   .
    simp only[if_pos c1];rfl
   simp only[if_neg c1];by_cases c2:iY (k,n,s,a) [126]=true
   .
    simp only[if_pos c2];rfl
   simp only[if_neg c2];by_cases c3:iY (k,n,s,a) [43]=true
   .
    simp only[if_pos c3];rfl
   simp only[if_neg c3];rfl
  cases hg
def ahp (t:Tok):List bC:=[.val (.int .i64 (Px.bin t).1),.val (.int .i64 (Px.bin t).2)]
theorem Xw:aK X0 cq 173 (uI ahp) :=
 aH (λargs=>lt.aP rfl args) (cg Np n0) λargs rs hg=>by
  unfold uI at hg;split at hg
  .
   rename_i k n s a;simp only[Option.some.injEq,Prod.mk.injEq] at hg;obtain ⟨h1,rfl⟩:=hg;refine ⟨[.int .i64 (Px.bin (k,n,s,a)).1,.int .i64 (Px.bin (k,n,s,a)).2],bW,5,?_,rfl,rfl⟩
   have h:ag X0 (cN M4 [] AV) bW 5 173 [.agg [.int .i64 k,.int .i64 n,.str s,.int .i64 a]] aa.empty (λv _=>some v) =
    pick2 (!eqI k 4) (some (.cG [.int .i64 0,.int .i64 0])) (List.rec (motive:=λ_=>Option AV) (some (.cG [.int .i64 0,.int .i64 0])) (λq _ r=>pick2 (decide (s=q.1)) (some (.cG [.int .i64 q.2.1,.int .i64 q.2.2])) r) aho):=by kernel_rfl
   rw[h,aN]
   have key:∀m:List (List UInt8×Int×Int),(List.rec (motive:=λ_=>Option AV) (some (.cG [.int .i64 0,.int .i64 0])) (λq _ r=>pick2 (decide (s=q.1)) (some (.cG [.int .i64 q.2.1,.int .i64 q.2.2])) r) m:Option AV)=some (.cG [.int .i64 (eI s m).1,.int .i64 (eI s m).2]):=by
    intro m
    induction m with
    |nil=>rfl
    |
     cons q m ih =>
     show pick2 (decide (s=q.1)) _ (List.rec (motive:=λ_=>Option AV) _ _ m)=_
     rw[ih,eI];by_cases hq:s=q.1
     .
      rw[decide_eq_true hq,if_pos hq]
     rw[decide_eq_false hq,if_neg hq]
   rw[key];unfold Px.bin;by_cases c1:k=4
   .
    simp only[if_pos c1];rfl
   simp only[if_neg c1];rfl
  cases hg
def M5:List mQ:=(168,[none],uI ZU)::(169,[none],uI ZV)::(173,[none],uI ahp)::M4
theorem D3:bS X0 cq M5:=.cons Tg (.cons Th (.cons Xw Np))
end
end Go.Proofs.YtpaddkkfefgkfaaGreatDoor.ex

namespace Go.Proofs.YtpaddkkfefgkfaaGreatDoor.ex
open Go.Tv Go.Ev Go.Px
set_option maxRecDepth 100000
noncomputable section
def CW (e:Ty):AV->Option (List e.den)
 |.bF e' l=>fX e' e l
 |.bE=>some []
 |_=>none
def gCl (rec:List Tok->Int->St->gp) (ins:List bP):Option (Bool×List bP×List bP) :=
 match ins with
 |
  [.val L,.val (.int .i64 a),.val (.int .i64 d),.list t0 t x,.val (.int .i64 e),.val (.int .i64 f),.val (.int .i64 s)] =>
  match CW aQ L,fX t cz x with
  |some l,some x=>some (Nat.beq t0 50&&Nat.ble l.length 1000000 && !ltI a 0 && !ltI l.length a && !ltI d 0 && !ltI 50 d&&Nat.ble x.length 200 && !ltI s 1 && !ltI 7 s&&(rec l s ⟨a,d,x,e,f⟩).isSome,
   [.val L,.val (.int .i64 ((rec l s ⟨a,d,x,e,f⟩).getD (false,⟨a,d,x,e,f⟩)).2.a),.val (.int .i64 ((rec l s ⟨a,d,x,e,f⟩).getD (false,⟨a,d,x,e,f⟩)).2.d),.list 50 cz ((rec l s ⟨a,d,x,e,f⟩).getD (false,⟨a,d,x,e,f⟩)).2.x,
    .val (.int .i64 ((rec l s ⟨a,d,x,e,f⟩).getD (false,⟨a,d,x,e,f⟩)).2.e),.val (.int .i64 ((rec l s ⟨a,d,x,e,f⟩).getD (false,⟨a,d,x,e,f⟩)).2.f)],
   [.val (.bool ((rec l s ⟨a,d,x,e,f⟩).getD (false,⟨a,d,x,e,f⟩)).1)])
  |_,_=>none
 |_=>none
def cCl (rec:List Tok->Int->St->gp):BC:=⟨some (200,[none,none,none,some (50,cz),none,none]),[none],gCl rec⟩
def N1 (rec:List Tok->Int->St->gp):List kB:=[(138,cCl rec)]
abbrev D7:=AV×List AV×Nat×Option Row
abbrev nK:=Option D7
def kR (v:AV) (H:aa):nK :=
 match H.get 0 with
 |
  some (.cells t [c0,c1,c2,c3,c4,c5])=>match c3 with
  |.own id n=>pick2 (Nat.beq t 200) (some (v,[c0,c1,c2,c4,c5],n,H.get id)) none
  |_=>none
 |_=>none
def pCl:List Bool:=[true,true,true,true,true,true,true,false,false]
def Ti:bI:=⟨dP [0,1,4] pCl,.none,[]⟩
def Xx (l:List Row):aa:=l.foldl (λM r=>M.push r) ⟨0,0,1,.e⟩
def mCl (L:AV) (n:Nat) (st:St):aa:=Xx [.cells 200 [L,.int .i64 st.a,.int .i64 st.d,.own 1 n,.int .i64 st.e,.int .i64 st.f],.list 50 cz st.x 0 false false]
abbrev cC (rec:List Tok->Int->St->gp) (β:Type):bf β:=cN M5 (N1 rec) β
def jCl (rec:List Tok->Int->St->gp) (L:AV) (s:Int) (r m:Nat) (n:Nat) (st:St):nK:=dQ X0 (cC rec _) Ti r 138 pCl kR m (iB 218 [(0,.ptr 0 0),(1,.int .i64 s),(4,.bool false)]) (mCl L n st)
def K9 (rec:List Tok->Int->St->gp) (l:List Tok) (s:Int) (st:St):Bool:=true&&Nat.ble l.length 1000000 && !ltI st.a 0 && !ltI l.length st.a && !ltI st.d 0 && !ltI 50 st.d&&Nat.ble st.x.length 200 && !ltI s 1 && !ltI 7 s&&(rec l s st).isSome
def fF (rec:List Tok->Int->St->gp) (l:List Tok) (s:Int) (st:St):Bool×St:=(rec l s st).getD (false,st)
def x5 (b:Bool) (L:AV) (st:St) (n:Nat):nK:=some (.bool b,[L,.int .i64 st.a,.int .i64 st.d,.int .i64 st.e,.int .i64 st.f],n,some (.list 50 cz st.x 0 false false))
def D8 (rec:List Tok->Int->St->gp) (L:AV) (l:List Tok) (s:Int) (st:St) (k:St->nK):nK :=
 pick2 (K9 rec l s st&&true) (pick2 (!(fF rec l s st).1) (x5 false L (fF rec l s st).2 (fF rec l s st).2.x.length) (k (fF rec l s st).2)) none
def D9 (L:AV) (st:St) (nd:Nd) (f:Int) (k:St->Nat->nK) (n:Nat):nK :=
 pick2 (eqI n 200) (x5 false L { st with e:=3,f:=f } n) (pick2 (Nat.ble (st.x.length+1) 1000000) (k { st with x:=st.x++[nd] } (st.x.length+1)) none)
set_option maxRecDepth 100000 in
theorem ab8 (rec:List Tok->Int->St->gp) (l:List Tok) (s:Int) (r m n:Nat) (a d e f:Int) (x:List Nd):jCl rec (.bF aQ l) s r (m+1) n ⟨a,d,x,e,f⟩ =
 pick2 (ltI a l.length) (Option.rec (motive:=λ_=>nK) none (λt=>pick2 (ltI (Px.bin t).2 s) (x5 true (.bF aQ l) ⟨a,d,x,e,f⟩ n)
  (D8 rec (.bF aQ l) l (IntKind.wrap .i64 ((Px.bin t).2+1)) ⟨IntKind.wrap .i64 (a+1),d,x,e,f⟩ λo =>
   D9 (.bF aQ l) o ((Px.bin t).1,0,[],IntKind.wrap .i64 (n-1),IntKind.wrap .i64 (o.x.length-1)) a (λo' n'=>jCl rec (.bF aQ l) s r m n' o') o.x.length)) (aO l a)) (x5 true (.bF aQ l) ⟨a,d,x,e,f⟩ n):=by kernel_rfl
def sgT (t:Tok) (s:List UInt8):Bool:=eqI t.1 4&&decide (t.2.2.1=s)
def Ea (L:AV) (st:St) (k:St->nK) (n:Nat):nK :=
 pick2 (eqI st.d 50) (x5 false L { st with e:=3,f:=st.a } n) (k { st with d:=IntKind.wrap .i64 (st.d+1),a:=IntKind.wrap .i64 (st.a+1) })
def Tj (L:AV) (a d e f:Int) (x:List Nd) (s:Int):List bP:=[.val L,.val (.int .i64 a),.val (.int .i64 d),.list 50 cz x,.val (.int .i64 e),.val (.int .i64 f),.val (.int .i64 s)]
def Tk (rec:List Tok->Int->St->gp) (l:List Tok) (st:St) (K:St->Nat->nK) (t:Tok):nK :=
 pick2 (qx ax t).isSome (D9 (.bF aQ l) { st with a:=IntKind.wrap .i64 (st.a+1) } ((qx ax t).getD zNd) st.a K st.x.length)
  (pick2 (pref t).isSome (Ea (.bF aQ l) st (λs1=>D8 rec (.bF aQ l) l 7 s1 λo =>
   pick2 (!eqI ((pref t).getD 0) 0) (D9 (.bF aQ l) { o with d:=IntKind.wrap .i64 (o.d-1) } ((pref t).getD 0,0,[],IntKind.wrap .i64 (o.x.length-1),0) st.a K o.x.length) (K { o with d:=IntKind.wrap .i64 (o.d-1) } o.x.length)) st.x.length)
   (pick2 (sgT t [40]) (Ea (.bF aQ l) st (λs1=>D8 rec (.bF aQ l) l 1 s1 λo =>
    pick2 (!ltI o.a l.length) (x5 false (.bF aQ l) { o with e:=4,f:=o.a } o.x.length) (Option.rec (motive:=λ_=>nK) none (λc=>pick2 (!sgT c [41]) (x5 false (.bF aQ l) { o with e:=4,f:=o.a } o.x.length)
     (K { o with d:=IntKind.wrap .i64 (o.d-1),a:=IntKind.wrap .i64 (o.a+1) } o.x.length)) (aO l o.a))) st.x.length)
    (x5 false (.bF aQ l) { st with e:=4,f:=st.a } st.x.length)))
set_option maxRecDepth 100000 in
theorem Xy (rec:List Tok->Int->St->gp) (l:List Tok) (s:Int) (r:Nat) (a d e f:Int) (x:List Nd) :
 ag X0 (cC rec D7) Ti r 138 [.ptr 0 0,.int .i64 s] (ek 200 6 (Tj (.bF aQ l) a d e f x s)) kR =
 pick2 (!ltI a l.length) (x5 false (.bF aQ l) ⟨a,d,x,4,a⟩ x.length) (Option.rec (motive:=λ_=>nK) none (Tk rec l ⟨a,d,x,e,f⟩ (λo n=>jCl rec (.bF aQ l) s r r n o)) (aO l a)):=by kernel_rfl
end
end Go.Proofs.YtpaddkkfefgkfaaGreatDoor.ex

namespace Go.Proofs.YtpaddkkfefgkfaaGreatDoor.ex
open Go.Tv Go.Ev Go.Px
set_option maxRecDepth 100000
noncomputable section
theorem getI_at? {α:Type} (l:List α) (i:Int):aO l i=at? l i:=by cases i<;>rfl
structure BD (l:List Tok) (st:St):Prop where
 len:l.length<=1000000
 a0:0<=st.a
 a1:st.a<=(l.length:Int)
 d0:0<=st.d
 d1:st.d<=50
 x:st.x.length<=200
def Qq (L:AV):gp->nK
 |some (b,st)=>x5 b L st st.x.length
 |none=>none
def BK (L:AV) (r:gp) (k:St->nK):nK :=
 match r with
 |some (true,o)=>k o
 |some (false,o)=>x5 false L o o.x.length
 |none=>none
theorem Tl (L:AV) (r:gp) (k:St->gp):Qq L (xX r k)=BK L r λo=>Qq L (k o):=by
 unfold xX BK
 split<;>rfl
theorem bind_congr {L:AV} {r:gp} {k k':St->nK} (h:∀o,r=some (true,o)->k o=k' o):BK L r k=BK L r k':=by
 unfold BK
 split
 .
  exact h _ rfl
 .
  rfl
 rfl
section
variable {rec:List Tok->Int->St->gp} {l:List Tok}
theorem IC {L:AV} {s:Int} {st:St} {k:St->nK} (h:BD l st) (h1:1<=s) (h7:s<=7):D8 rec L l s st k=BK L (rec l s st) k:=by
 unfold D8 K9 fF BK
 rw[cj h.len,cn (h.a0),cn h.a1,cn h.d0,cn h.d1,cj h.x,cn h1,cn h7]
 cases hr:rec l s st with
 |none=>rfl
 |
  some q =>
  obtain ⟨b,o⟩:=q;cases b<;>rfl
theorem BL {L:AV} {st:St} {nd:Nd} {f:Int} {k:St->Nat->nK} {k':St->gp} (h:BD l st) (hk:st.x.length≠200->k { st with x:=st.x++[nd] } (st.x.length+1)=Qq L (k' { st with x:=st.x++[nd] })):D9 L st nd f k st.x.length=Qq L (gb st nd f k'):=by
 unfold D9 gb
 by_cases h2:st.x.length=200
 .
  rw[if_pos h2,Bm (by omega)];rfl
 rw[if_neg h2,yN (by omega),cj (by have:=h.x;omega)]
 exact hk h2
theorem Tm {L:AV} {st:St} {k:St->nK} {k':St->gp} (h:BD l st) (ha:st.a<(l.length:Int)) (hk:st.d≠50->k { st with d:=st.d+1,a:=st.a+1 }=Qq L (k' { st with d:=st.d+1,a:=st.a+1 })):Ea L st k st.x.length=Qq L (iZ st k'):=by
 unfold Ea iZ
 have:=h.len
 have:=h.a0
 have:=h.d0
 have:=h.d1
 by_cases h2:st.d=50
 .
  rw[if_pos h2,Bm h2];rfl
 rw[if_neg h2,yN h2,i64_in (n:=st.d+1) (by omega) (by omega),i64_in (n:=st.a+1) (by omega) (by omega)]
 exact hk h2
theorem Tn (t:Tok) (s:List UInt8):sgT t s=iY t s:=xZ t.1 t.2.1 t.2.2.2 t.2.2.1 s
def Xz (rec:List Tok->Int->St->gp) (l:List Tok):Prop:=∀s st o,1<=s->BD l st->rec l s st=some (true,o)->Grown ax l st o
theorem BD.grown {st o:St} (h:BD l st) (g:Grown ax l st o):BD l o:=by
 obtain ⟨t,_,_,h3,h4,h5,_,_,h8⟩:=g
 exact ⟨h.len,by have:=h.a0;omega,h4,by rw[h5];exact h.d0,by rw[h5];exact h.d1,h8⟩
theorem ZW (hf:Xz rec l) (s:Int) (hs:1<=s) (r:Nat):∀(m:Nat) (st:St),BD l st->jCl rec (.bF aQ l) s r m st.x.length st=Qq (.bF aQ l) (bK l (rec l) s m st)
 |0,st,_=>rfl
 |
  m+1,⟨a,d,x,e,f⟩,h=>by
  have hlen:=h.len;have ha0:=h.a0;simp only at ha0;rw[show (⟨a,d,x,e,f⟩:St).x.length=x.length from rfl,ab8,getI_at?];unfold bK;cases cA:at? l a with
  |
   none =>
   have hge:(l.length:Int)<=a:=by
    unfold at? at cA;split at cA
    .
     rename_i n;have:=List.getElem?_eq_none_iff.1 cA;simp;omega
    omega
   rw[cn hge];rfl
  |
   some t =>
   have hlt:=dL cA;rw[jo hlt.2];show pick2 (ltI (Px.bin t).2 s) _ _=_;simp only;rw[aI];by_cases hb:(Px.bin t).2<s
   .
    rw[if_pos hb,if_pos hb];rfl
   rw[if_neg hb,if_neg hb];have ZX:=Td (t:=t) (by omega)
   have hbd:BD l ⟨a+1,d,x,e,f⟩:=⟨hlen,by show 0<=a+1;omega,by show a+1<=_;omega,h.d0,h.d1,h.x⟩
   rw[i64_in (n:=(Px.bin t).2+1) (by omega) (by omega),i64_in (n:=a+1) (by omega) (by omega),IC hbd (by omega) (by omega),Tl]
   refine bind_congr λo ho=>?_
   have hg:=hbd.grown (hf _ _ _ (by omega) hbd ho)
   have hx:=h.x;simp only at hx;have hox:=hg.x;rw[i64_in (n:=(x.length:Int)-1) (by omega) (by omega),i64_in (n:=(o.x.length:Int)-1) (by omega) (by omega)]
   refine BL (l:=l) hg λhne=>?_
   have:=ZW hf s hs r m { o with x:=o.x++[((Px.bin t).1,0,[],(x.length:Int)-1,(o.x.length:Int)-1)] } ⟨hg.len,hg.a0,hg.a1,hg.d0,hg.d1,by show (o.x++[_]).length<=200;simp;omega⟩
   rw[show ({ o with x:=o.x++[((Px.bin t).1,0,[],(x.length:Int)-1,(o.x.length:Int)-1)] }:St).x.length=o.x.length+1 by simp] at this
   exact this
theorem Tp (hf:Xz rec l) {K:St->Nat->nK} {K':St->gp} (hK:∀o,BD l o->K o o.x.length=Qq (.bF aQ l) (K' o)) {st:St} (h:BD l st) {t:Tok} (cA:at? l st.a=some t):Tk rec l st K t=Qq (.bF aQ l) (dJ ax l (rec l) st K'):=by
 have hlen:=h.len
 have ha0:=h.a0
 have hlt:=dL cA
 have hx:=h.x
 have hd0:=h.d0
 have hd1:=h.d1
 unfold Tk dJ
 rw[cA]
 simp only
 cases ho:qx ax t with
 |
  some n =>
  show D9 _ _ _ _ _ _=_;rw[i64_in (n:=st.a+1) (by omega) (by omega)]
  refine BL (l:=l) (st:={ st with a:=st.a+1 }) ⟨hlen,by show 0<=st.a+1;omega,by show st.a+1<=_;omega,hd0,hd1,hx⟩ λhne=>?_
  have hne:st.x.length≠200:=hne;have:=hK { st with a:=st.a+1,x:=st.x++[n] } ⟨hlen,by show 0<=st.a+1;omega,by show st.a+1<=_;omega,hd0,hd1,by show (st.x++[n]).length<=200;simp;omega⟩
  rw[show ({ st with a:=st.a+1,x:=st.x++[n] }:St).x.length=st.x.length+1 by simp] at this
  exact this
 |
  none =>
  show pick2 (pref t).isSome _ _=_;simp only
  have inner:∀(s:Int),1<=s->s<=7->∀(q:St->nK) (q':St->gp),(∀o,BD l o->o.d=st.d+1->q o=Qq (.bF aQ l) (q' o))->Ea (.bF aQ l) st (λs1=>D8 rec (.bF aQ l) l s s1 q) st.x.length=Qq (.bF aQ l) (iZ st λs1=>xX (rec l s s1) q'):=λs h1 h7 q q' hq=>by
   refine Tm (l:=l) h hlt.2 λhne=>?_
   have hbd:BD l { st with d:=st.d+1,a:=st.a+1 }:=⟨hlen,by show 0<=st.a+1;omega,by show st.a+1<=_;omega,by show 0<=st.d+1;omega,by show st.d+1<=50;omega,hx⟩
   rw[IC hbd h1 h7,Tl];refine bind_congr λo hr=>?_
   have hg:=hf _ _ _ h1 hbd hr;refine hq o (hbd.grown hg) ?_;obtain ⟨_,_,_,_,_,h5,_⟩:=hg;exact h5
  cases hp:pref t with
  |
   some op =>
   show Ea _ _ _ _=_;simp only;refine inner 7 (by decide) (by decide) _ _ λo ZX hod=>?_
   have hox:=ZX.x;have Pt:BD l { o with d:=o.d-1 }:=⟨hlen,ZX.a0,ZX.a1,by show 0<=o.d-1;omega,by show o.d-1<=50;omega,hox⟩
   show pick2 (!eqI op 0) _ _=_;rw[aN,i64_in (n:=o.d-1) (by omega) (by omega),i64_in (n:=(o.x.length:Int)-1) (by omega) (by omega)]
   by_cases h0:op=0
   .
    rw[if_pos h0,if_pos h0];exact hK _ Pt
   rw[if_neg h0,if_neg h0];refine BL (l:=l) (st:={ o with d:=o.d-1 }) Pt λhne=>?_
   have hne:o.x.length≠200:=hne;have:=hK { o with d:=o.d-1,x:=o.x++[(op,0,[],(o.x.length:Int)-1,0)] } ⟨hlen,Pt.a0,Pt.a1,Pt.d0,Pt.d1,by show (o.x++[_]).length<=200;simp;omega⟩
   rw[show ({ o with d:=o.d-1,x:=o.x++[(op,0,[],(o.x.length:Int)-1,0)] }:St).x.length=o.x.length+1 by simp] at this
   exact this
  |
   none =>
   show pick2 (sgT t [40]) _ _=_;rw[Tn,pick2_eq];by_cases h40:iY t [40]=true
   .
    rw[if_pos h40];simp only[h40,if_true];refine inner 1 (by decide) (by decide) _ _ λo ZX hod=>?_
    have hoa:=ZX.a0;have hol:=ZX.a1;rw[getI_at?];cases XA:at? l o.a with
    |
     none =>
     have hge:(l.length:Int)<=o.a:=by
      unfold at? at XA;split at XA
      .
       rename_i n hn;have:=List.getElem?_eq_none_iff.1 XA;rw[hn];simp;omega
      rename_i hn;rw[hn] at hoa;omega
     rw[cn hge];rfl
    |
     some c =>
     have ab6:=dL XA;rw[jo ab6.2];show pick2 (!sgT c [41]) _ _=_;simp only;rw[Tn,i64_in (n:=o.d-1) (by omega) (by omega),i64_in (n:=o.a+1) (by omega) (by omega)]
     cases iY c [41] with
     |true=>exact hK { o with d:=o.d-1,a:=o.a+1 } ⟨hlen,by show 0<=o.a+1;omega,by show o.a+1<=_;omega,by show 0<=o.d-1;omega,by show o.d-1<=50;omega,ZX.x⟩
     |false=>rfl
   rw[if_neg h40];simp only[h40];rfl
end
theorem ahs {rec:List Tok->Int->St->gp} {l:List Tok} (hf:Xz rec l) {st:St} (h:BD l st) {s:Int} (hs:1<=s) :
 ag X0 (cC rec D7) Ti (l.length+1) 138 [.ptr 0 0,.int .i64 s] (ek 200 6 (Tj (.bF aQ l) st.a st.d st.e st.f st.x s)) kR=Qq (.bF aQ l) (dJ ax l (rec l) st (bK l (rec l) s (l.length+1))):=by
 obtain ⟨a,d,x,e,f⟩:=st
 rw[Xy,getI_at?]
 cases cA:at? l a with
 |
  none =>
  have ha0:=h.a0;simp only at ha0
  have hge:(l.length:Int)<=a:=by
   unfold at? at cA;split at cA
   .
    rename_i n;have:=List.getElem?_eq_none_iff.1 cA;simp;omega
   omega
  rw[cn hge];unfold dJ;simp only[cA];rfl
 |
  some t =>
  have hlt:=dL cA;rw[jo hlt.2];exact Tp hf (λo ho=>ZW hf s hs _ _ o ho) h cA
set_option maxRecDepth 100000 in
theorem Tq (rec:List Tok->Int->St->gp) (s:Int) (r:Nat) (a d e f:Int) (x:List Nd) :
 ag X0 (cC rec D7) Ti r 138 [.ptr 0 0,.int .i64 s] (ek 200 6 (Tj .bE a d e f x s)) kR=pick2 (!ltI a 0) (x5 false .bE ⟨a,d,x,4,a⟩ x.length) none:=by kernel_rfl
theorem ZY {rec:List Tok->Int->St->gp} {L:AV} (hL:CV L=true) {a d e f s:Int} {x:List Nd} (hN:cu X0 cq 138 (cCl rec)) {r:Nat} {b:Bool} {st:St}
 (h:ag X0 (cC rec D7) Ti r 138 [.ptr 0 0,.int .i64 s] (ek 200 6 (Tj L a d e f x s)) kR=x5 b L st st.x.length) :
 ∃vs M1 cs1,zf X0 cq 138 [.ptr 0 0,.int .i64 s] (ek 200 6 (Tj L a d e f x s)) vs M1/\M1.get 0=some (.cells 200 cs1)/\cs1.length=6 /\
  mz M1 [0] (cs1++vs) [.val L,.val (.int .i64 st.a),.val (.int .i64 st.d),.list 50 cz st.x,.val (.int .i64 st.e),.val (.int .i64 st.f),.val (.bool b)]:=by
 obtain ⟨v,M1,h1,h2⟩:=mb (λargs=>lt.aP rfl args) (cg D3 (.cons hN .nil) D7) h
 unfold kR at h1
 split at h1
 .
  rename_i t c0 c1 c2 c3 c4 c5 hg;split at h1
  .
   rename_i id n;rw[pick2_eq] at h1;split at h1
   .
    rename_i ht;obtain rfl:=Nat.eq_of_beq_eq_true ht;simp only[Option.some.injEq,Prod.mk.injEq,List.cons.injEq,and_true] at h1;obtain ⟨rfl,⟨rfl,rfl,rfl,rfl,rfl⟩,rfl,hrow⟩:=h1;refine ⟨[.bool b],M1,_,h2 [.bool b] rfl,hg,rfl,rfl,hL,rfl,rfl,rfl,rfl,.inl ⟨id,0,false,rfl,hrow,?_,rfl,rfl,rfl,rfl,rfl,rfl,trivial⟩⟩;intro hm;have:id=0:=by simpa using hm
    subst this;rw[hg] at hrow;cases hrow
   cases h1
  cases h1
 cases h1
theorem La (k:Nat) (l:List Tok):Xz (λl=>ay ax l k) l:=λs st o h1 hb hr=>fK l k s st o h1 hb.x hb.a1 hr
theorem FQ:∀k:Nat,cu X0 cq 138 (cCl λl=>ay ax l k)
 |
  0=>by
  intro ins outs rs hg;exfalso;have hg:gCl (λl=>ay ax l 0) ins=some (true,outs,rs):=hg
  unfold gCl at hg;split at hg
  .
   split at hg
   .
    simp[ay] at hg
   cases hg
  cases hg
 |
  k+1=>by
  intro ins outs rs hg;have hg:gCl (λl=>ay ax l (k+1)) ins=some (true,outs,rs):=hg
  unfold gCl at hg;split at hg
  case h_2=>cases hg
  rename_i L a d t0 t x e f s _;split at hg
  case h_2=>cases hg
  rename_i l x' hl hx;obtain ⟨rfl,hx2⟩:=bq hx;have hx2:x=x':=hx2;subst hx2;simp only[Option.some.injEq,Prod.mk.injEq,Bool.and_eq_true,Bool.not_eq_true'] at hg;obtain ⟨⟨⟨⟨⟨⟨⟨⟨⟨⟨g0,g1⟩,g2⟩,g3⟩,g4⟩,g5⟩,g6⟩,g7⟩,g8⟩,g9⟩,rfl,rfl⟩:=hg;obtain rfl:=Nat.eq_of_beq_eq_true g0;have CX:∀{p q:Int},ltI p q=false->q<=p:=λ{p q} h=>by rw[ltI_spec] at h;simpa using h
  have hbd:BD l ⟨a,d,x,e,f⟩:=⟨Nat.le_of_ble_eq_true g1,CX g2,CX g3,CX g4,CX g5,Nat.le_of_ble_eq_true g6⟩;obtain ⟨⟨b,st⟩,hr⟩:=Option.isSome_iff_exists.1 g9;rw[hr];have hc:ay ax l (k+1) s ⟨a,d,x,e,f⟩=dJ ax l (ay ax l k) ⟨a,d,x,e,f⟩ (bK l (ay ax l k) s (l.length+1)):=rfl;cases L with
  |
   bF e' l0 =>
   obtain ⟨rfl,qB⟩:=bq hl;have qB:l0=l:=qB;subst qB;have hrun:=ahs (rec:=λl=>ay ax l k) (La k l0) hbd (CX g7)
   rw[<-hc,hr] at hrun;exact λ_ _=>ZY rfl (FQ k) hrun
  |
   bE =>
   have hl:some []=some l:=hl;cases hl;have ha:a=0:=by have:=hbd.a0;have:=hbd.a1;simp only[List.length_nil] at *;omega
   subst ha;have hrun:=Tq (λl=>ay ax l k) s 5 0 d e f x
   have VZ:(false,(⟨0,d,x,4,0⟩:St))=(b,st):=Option.some.inj (hc.symm.trans hr);cases VZ;exact λ_ _=>ZY rfl (FQ k) hrun
  |_=>cases hl
end
end Go.Proofs.YtpaddkkfefgkfaaGreatDoor.ex

namespace Go.Proofs.YtpaddkkfefgkfaaGreatDoor.ex
open Go.Tv Go.Ev Go.Px
set_option maxRecDepth 100000
noncomputable section
def rH (v:AV) (H:aa):Option (AV×Option Row) :=
 match v with
 |.cG (.own i _::_)=>some (v,H.get i)
 |.own i _=>some (v,H.get i)
 |_=>some (v,none)
theorem BO {v:AV} {H:aa} {r:AV×Option Row} (h:rH v H=some r):v=r.1:=by
 unfold rH at h
 split at h<;>(cases h;rfl)
def ai (l:List Tok) (a:Int):List Nd×Int×Int×Int:=(fQ ax l a).getD ([],0,0,0)
def BP (e f:Int):Option (AV×Option Row):=some (.cG [.bE,.int .i64 0,.agg [.int .i64 e,.int .i64 f]],none)
def BQ (x:List Nd) (n:Nat) (a:Int):Option (AV×Option Row):=some (.cG [.own 2 n,.int .i64 a,.agg [.int .i64 0,.int .i64 0]],some (.list 50 cz x 0 false false))
abbrev cM (M:List mQ) (rec:List Tok->Int->St->gp) (β:Type):bf β:=cN M (N1 rec) β
set_option maxRecDepth 100000 in
theorem XB (rec:List Tok->Int->St->gp) (l:List Tok) (a:Int) (r:Nat):ag X0 (cM M5 rec _) bW r 93 [.bF aQ l,.int .i64 a] aa.empty rH =
 pick2 (ltI a 0) (BP 2 0) (pick2 (ltI l.length a) (BP 2 0) (pick2 (K9 rec l 1 ⟨a,0,[],0,0⟩&&true) (pick2 (!(fF rec l 1 ⟨a,0,[],0,0⟩).1) (BP (fF rec l 1 ⟨a,0,[],0,0⟩).2.e (fF rec l 1 ⟨a,0,[],0,0⟩).2.f)
  (BQ (fF rec l 1 ⟨a,0,[],0,0⟩).2.x (fF rec l 1 ⟨a,0,[],0,0⟩).2.x.length (fF rec l 1 ⟨a,0,[],0,0⟩).2.a)) none)):=by kernel_rfl
def gPs (args:List AV):Option (Bool×List bC) :=
 match args with
 |
  [L,.int .i64 a]=>match CW aQ L with
  |some l=>some (Nat.ble l.length 1000000,[.list 50 cz (ai l a).1,.val (.int .i64 (ai l a).2.1),.val (.agg [.int .i64 (ai l a).2.2.1,.int .i64 (ai l a).2.2.2])])
  |none=>none
 |_=>none
theorem kW {e:Ty} {a:AV} {l:List e.den} (h:CW e a=some l):a = .bF e l\/(a = .bE/\l=[]):=by
 unfold CW at h
 split at h
 .
  obtain ⟨he,h2⟩:=bq h;subst he;have h2:_=l:=h2;subst h2;exact .inl rfl
 .
  cases h;exact .inr ⟨rfl,rfl⟩
 cases h
theorem Tx (rec:List Tok->Int->St->gp) (a:Int) (r:Nat):ag X0 (cM M5 rec _) bW r 93 [.bE,.int .i64 a] aa.empty rH =
 pick2 (ltI a 0) (BP 2 0) (pick2 (ltI 0 a) (BP 2 0) (pick2 (K9 rec [] 1 ⟨a,0,[],0,0⟩&&true) (pick2 (!(fF rec [] 1 ⟨a,0,[],0,0⟩).1) (BP (fF rec [] 1 ⟨a,0,[],0,0⟩).2.e (fF rec [] 1 ⟨a,0,[],0,0⟩).2.f)
  (BQ (fF rec [] 1 ⟨a,0,[],0,0⟩).2.x (fF rec [] 1 ⟨a,0,[],0,0⟩).2.x.length (fF rec [] 1 ⟨a,0,[],0,0⟩).2.a)) none)):=by kernel_rfl
theorem acd:aK X0 cq 93 gPs:=by
 intro args rs hg
 unfold gPs at hg
 split at hg
 case h_2=>cases hg
 rename_i L a
 split at hg
 case h_2=>cases hg
 rename_i l hl
 simp only[Option.some.injEq,Prod.mk.injEq] at hg
 obtain ⟨hb,rfl⟩:=hg
 have hb:=Nat.le_of_ble_eq_true hb
 have hrun:ag X0 (cM M5 (λl0=>ay ax l0 (l.length+1)) _) bW 5 93 [L,.int .i64 a] aa.empty rH =
  if (ai l a).2.2.1=0 then BQ (ai l a).1 (ai l a).1.length (ai l a).2.1 else BP (ai l a).2.2.1 (ai l a).2.2.2:=by
  have e:ag X0 (cM M5 (λl0=>ay ax l0 (l.length+1)) _) bW 5 93 [L,.int .i64 a] aa.empty rH =
   pick2 (ltI a 0) (BP 2 0) (pick2 (ltI l.length a) (BP 2 0) (pick2 (K9 (λl0=>ay ax l0 (l.length+1)) l 1 ⟨a,0,[],0,0⟩&&true) (pick2 (!(fF (λl0=>ay ax l0 (l.length+1)) l 1 ⟨a,0,[],0,0⟩).1) (BP (fF (λl0=>ay ax l0 (l.length+1)) l 1 ⟨a,0,[],0,0⟩).2.e (fF (λl0=>ay ax l0 (l.length+1)) l 1 ⟨a,0,[],0,0⟩).2.f)
    (BQ (fF (λl0=>ay ax l0 (l.length+1)) l 1 ⟨a,0,[],0,0⟩).2.x (fF (λl0=>ay ax l0 (l.length+1)) l 1 ⟨a,0,[],0,0⟩).2.x.length (fF (λl0=>ay ax l0 (l.length+1)) l 1 ⟨a,0,[],0,0⟩).2.a)) none)):=by
   rcases kW hl with rfl|⟨rfl,rfl⟩
   .
    exact XB _ l a 5
   exact Tx _ a 5
  rw[e,aI,aI];have key:∀r,fQ ax l a=some r->ai l a=r:=λr h=>by unfold ai;rw[h];rfl
  by_cases h1:a<0
  .
   rw[if_pos h1,key ([],0,2,0) (by unfold fQ;rw[if_pos (Or.inl h1)])];rfl
  rw[if_neg h1];by_cases h2:(l.length:Int)<a
  .
   rw[if_pos h2,key ([],0,2,0) (by unfold fQ;rw[if_pos (Or.inr h2)])];rfl
  rw[if_neg h2];have hno:¬(a<0\/(l.length:Int)<a):=by omega
  have hbd:BD l ⟨a,0,[],0,0⟩:=⟨hb,by show 0<=a;omega,by show a<=_;omega,Int.le_refl 0,by show (0:Int)<=50;decide,by simp⟩
  obtain ⟨⟨b,st⟩,hr⟩:=nJ (nm:=ax) l (l.length+1) 1 ⟨a,0,[],0,0⟩ (by decide) (by simp) hbd.a0 hbd.a1 (by show _-a<_;omega)
  unfold K9 fF;rw[cj hb,cn hbd.a0,cn hbd.a1,cn hbd.d0,cn hbd.d1,cj hbd.x];simp only[hr];cases b with
  |true=>rw[key (st.x,st.a,0,0) (by unfold fQ;rw[if_neg hno,hr])];rfl
  |
   false =>
   have hne:=zM l _ _ _ st hr;rw[key ([],0,st.e,st.f) (by unfold fQ;rw[if_neg hno,hr])]
   simp only;rw[if_neg hne];rfl
 obtain ⟨r,hr⟩:=p7 (nm:=ax) l a
 by_cases h0:(ai l a).2.2.1=0
 .
  rw[if_pos h0] at hrun;unfold BQ at hrun;obtain ⟨v,M1,h1,h2⟩:=mb (λargs=>lt.aP rfl args) (cg D3 (.cons (FQ (l.length+1)) .nil) (AV×Option Row)) hrun
  have hv:=BO h1;subst hv;refine ⟨_,M1,h2 [.own 2 (ai l a).1.length,.int .i64 (ai l a).2.1,.agg [.int .i64 0,.int .i64 0]] rfl,rfl,.inl ⟨2,0,false,rfl,?_,by simp,rfl,rfl,?_,rfl,trivial⟩⟩
  .
   exact (Prod.mk.inj (Option.some.inj h1)).2
  have hz:(ai l a).2.2.2=0:=by
   unfold ai at h0 ⊢;rw[hr] at h0 ⊢;unfold fQ at hr;split at hr
   .
    cases hr;exact absurd h0 (by decide)
   split at hr
   .
    cases hr;rfl
   .
    rename_i st hc;cases hr;exact absurd h0 (zM l _ _ _ st hc)
   cases hr
  rw[h0,hz]
 rw[if_neg h0] at hrun
 unfold BP at hrun
 obtain ⟨v,M1,h1,h2⟩:=mb (λargs=>lt.aP rfl args) (cg D3 (.cons (FQ (l.length+1)) .nil) (AV×Option Row)) hrun
 have hv:=BO h1
 subst hv
 have hz:(ai l a).1=[]/\(ai l a).2.1=0:=by
  unfold ai at h0 ⊢;rw[hr] at h0 ⊢;exact (wh (nm:=ax) (l:=l) (a:=a) hr).1 h0
 refine ⟨_,M1,h2 [.bE,.int .i64 0,.agg [.int .i64 (ai l a).2.2.1,.int .i64 (ai l a).2.2.2]] rfl,rfl,.inr ⟨rfl,hz.1,?_,rfl,rfl,rfl,trivial⟩⟩
 rw[hz.2]
def M6:List mQ:=(93,[some aQ,none],gPs)::M5
theorem rL:bS X0 cq M6:=.cons acd D3
end
end Go.Proofs.YtpaddkkfefgkfaaGreatDoor.ex
