/- Expressions: the setting of the laws on lines. Expressions: what a token alone is. Expressions: the contract of climb, as it calls itself. Expressions: the contract of climb. Expressions: the contract of Parse. -/
import Derived.Test.YtpaddkkfefgkfaaGreatDoorGrb
import Derived.Test.YtpaddkkfefgkfaaGreatDoorLyh
import Derived.Test.YtpaddkkfefgkfaaGreatDoorLyg
import Derived.Test.YtpaddkkfefgkfaaGreatDoorGxa

namespace Go.Proofs.YtpaddkkfefgkfaaGreatDoor.ex
open Go.Tv Go.Ev
noncomputable section
abbrev X0:cR:=lt.Xg lt.gJ
abbrev eo:=bg X0 lt.kn
abbrev dc:bO:=lt.dc
def cN (M:List qB) (N:List lS) (β:Type):aY β:=QC X0 (My M) (YA N) lt.inl 400 β 40
theorem eB {M:List qB} {N:List lS} (hM:cU X0 eo M) (hN:dD X0 eo N) (β:Type):aQ X0 eo (cN M N β):=QD hM hN (λf h args=>lt.aX h args) 400 40 β
theorem n0:dD X0 eo []:=.nil
abbrev bf:List UInt8->Bool:=lt.bf
def M3:List qB:=(16,[none],lt.Yw)::(27,[none],lt.Yu)::(15,[none],lt.gNm)::lt.R1
theorem Gr:cU X0 eo M3:=.cons (lt.Yx lt.gJ) (.cons lt.ac4 (.cons (lt.Wf lt.gJ) (lt.We lt.gJ)))
end
end Go.Proofs.YtpaddkkfefgkfaaGreatDoor.ex

namespace Go.Proofs.YtpaddkkfefgkfaaGreatDoor.ex
open Go.Tv Go.Ev Go.Px
set_option maxRecDepth 100000
noncomputable section
def QJ (t:Tok):AV:=.agg [.int .i64 t.1,.int .i64 t.2.1,.str t.2.2.1,.int .i64 t.2.2.2]
def QK (n:Nd):AV:=.agg [.int .i64 n.1,.int .i64 n.2.1,.str n.2.2.1,.int .i64 n.2.2.2.1,.int .i64 n.2.2.2.2]
def zNd:Nd:=(0,0,[],0,0)
abbrev aL:Ty:=.pair (.int .i64) (.pair (.int .i64) (.pair .str (.int .i64)))
abbrev ek:Ty:=.pair (.int .i64) (.pair (.int .i64) (.pair .str (.pair (.int .i64) (.int .i64))))
def tC (f:Tok->List bL) (args:List AV):Option (Bool×List bL) :=
 match args with
 |[.agg [.int .i64 k,.int .i64 n,.str s,.int .i64 a]]=>some (true,f (k,n,s,a))
 |_=>none
def YE (args:List AV):Option (Bool×List bL) :=
 match args with
 |[.agg [.int .i64 k,.int .i64 n,.str s,.int .i64 a],.str t]=>some (true,[.val (.bool (eqI k 4&&decide (s=t)))])
 |_=>none
theorem Uv:aT X0 eo 172 YE :=
 aU (λargs=>lt.aX rfl args) (eB Gr n0) λargs rs hg=>by
  unfold YE at hg;split at hg
  .
   rename_i k n s a t;simp only[Option.some.injEq,Prod.mk.injEq] at hg;obtain ⟨h1,rfl⟩:=hg;refine ⟨[.bool (eqI k 4&&decide (s=t))],dc,5,?_,rfl,rfl⟩;have h:ag X0 (cN M3 [] AV) dc 5 172 [.agg [.int .i64 k,.int .i64 n,.str s,.int .i64 a],.str t] aa.empty (λv _=>some v)=pick2 (eqI k 4) (some (.bool (decide (s=t)))) (some (.bool false)):=by kernel_rfl
   rw[h];cases eqI k 4<;>rfl
  cases hg
def M4:List qB:=(172,[none,none],YE)::M3
theorem K9:cU X0 eo M4:=.cons Uv Gr
theorem wB (k n a:Int) (s t:List UInt8):(eqI k 4&&decide (s=t))=iI (k,n,s,a) t:=by
 unfold iI
 have e:(k==4)=decide (k=4):=by rw[Bool.eq_iff_iff];simp
 rw[eqI_spec,e]
def Wj (t:Tok):List bL:=[.val (QK ((pP bf t).getD zNd)),.val (.bool (pP bf t).isSome)]
theorem QL:aT X0 eo 168 (tC Wj) :=
 aU (λargs=>lt.aX rfl args) (eB K9 n0) λargs rs hg=>by
  unfold tC at hg;split at hg
  .
   rename_i k n s a;simp only[Option.some.injEq,Prod.mk.injEq] at hg;obtain ⟨h1,rfl⟩:=hg;refine ⟨[QK ((pP bf (k,n,s,a)).getD zNd),.bool (pP bf (k,n,s,a)).isSome],dc,5,?_,rfl,rfl⟩
   have h:ag X0 (cN M4 [] AV) dc 5 168 [.agg [.int .i64 k,.int .i64 n,.str s,.int .i64 a]] aa.empty (λv _=>some v) =
    pick2 (eqI k 2) (some (.cO [QK (1,n,[],0,0),.bool true])) ((λrest=>pick2 (eqI k 1) (pick2 (bf s) (some (.cO [QK (2,0,s,0,0),.bool true])) rest) rest)
     (pick2 (eqI k 4&&decide (s=[36])) (some (.cO [QK (3,0,[],0,0),.bool true])) (pick2 (eqI k 4&&decide (s=[36,36])) (some (.cO [QK (4,0,[],0,0),.bool true])) (some (.cO [QK zNd,.bool false]))))):=by kernel_rfl
   rw[h,wB k n a,wB k n a];unfold pP;simp only[aH];simp only[pick2_eq]
   have rest:(if iI (k,n,s,a) [36]=true then some (AV.cO [QK (3,0,[],0,0),AV.bool true]) else if iI (k,n,s,a) [36,36]=true then some (AV.cO [QK (4,0,[],0,0),AV.bool true]) else some (AV.cO [QK zNd,AV.bool false])) =
    some (iF [QK ((if iI (k,n,s,a) [36]=true then some (3,0,[],0,0) else if iI (k,n,s,a) [36,36]=true then some (4,0,[],0,0) else none).getD zNd),AV.bool (if iI (k,n,s,a) [36]=true then some ((3,0,[],0,0):Nd) else if iI (k,n,s,a) [36,36]=true then some (4,0,[],0,0) else none).isSome]):=by
    by_cases c4:iI (k,n,s,a) [36]=true
    .
     simp only[if_pos c4];rfl
    simp only[if_neg c4];by_cases c5:iI (k,n,s,a) [36,36]=true
    .
     simp only[if_pos c5];rfl
    simp only[if_neg c5];rfl
   by_cases c1:k=2
   .
    simp only[if_pos c1];rfl
   simp only[if_neg c1];by_cases c2:k=1
   .
    by_cases c3:bf s=true
    .
     simp only[if_pos c2,if_pos c3,if_pos (And.intro c2 c3)];rfl
    simp only[if_pos c2,if_neg c3,if_neg (λh:k=1/\bf s=true=>c3 h.2)];exact rest
   simp only[if_neg c2,if_neg (λh:k=1/\bf s=true=>c2 h.1)];exact rest
  cases hg
def Wk (t:Tok):List bL:=[.val (.int .i64 ((pref t).getD 0)),.val (.bool (pref t).isSome)]
theorem QN:aT X0 eo 169 (tC Wk) :=
 aU (λargs=>lt.aX rfl args) (eB K9 n0) λargs rs hg=>by
  unfold tC at hg;split at hg
  .
   rename_i k n s a;simp only[Option.some.injEq,Prod.mk.injEq] at hg;obtain ⟨h1,rfl⟩:=hg;refine ⟨[.int .i64 ((pref (k,n,s,a)).getD 0),.bool (pref (k,n,s,a)).isSome],dc,5,?_,rfl,rfl⟩
   have h:ag X0 (cN M4 [] AV) dc 5 169 [.agg [.int .i64 k,.int .i64 n,.str s,.int .i64 a]] aa.empty (λv _=>some v) =
    pick2 (eqI k 4&&decide (s=[45])) (some (.cO [.int .i64 5,.bool true])) (pick2 (eqI k 4&&decide (s=[126])) (some (.cO [.int .i64 6,.bool true])) (pick2 (eqI k 4&&decide (s=[43])) (some (.cO [.int .i64 0,.bool true])) (some (.cO [.int .i64 0,.bool false])))):=by kernel_rfl
   rw[h,wB k n a,wB k n a,wB k n a];unfold pref;simp only[pick2_eq];by_cases c1:iI (k,n,s,a) [45]=true
   .
    simp only[if_pos c1];rfl
   simp only[if_neg c1];by_cases c2:iI (k,n,s,a) [126]=true
   .
    simp only[if_pos c2];rfl
   simp only[if_neg c2];by_cases c3:iI (k,n,s,a) [43]=true
   .
    simp only[if_pos c3];rfl
   simp only[if_neg c3];rfl
  cases hg
def adj (t:Tok):List bL:=[.val (.int .i64 (Px.bin t).1),.val (.int .i64 (Px.bin t).2)]
theorem Uw:aT X0 eo 173 (tC adj) :=
 aU (λargs=>lt.aX rfl args) (eB K9 n0) λargs rs hg=>by
  unfold tC at hg;split at hg
  .
   rename_i k n s a;simp only[Option.some.injEq,Prod.mk.injEq] at hg;obtain ⟨h1,rfl⟩:=hg;refine ⟨[.int .i64 (Px.bin (k,n,s,a)).1,.int .i64 (Px.bin (k,n,s,a)).2],dc,5,?_,rfl,rfl⟩
   have h:ag X0 (cN M4 [] AV) dc 5 173 [.agg [.int .i64 k,.int .i64 n,.str s,.int .i64 a]] aa.empty (λv _=>some v) =
    pick2 (!eqI k 4) (some (.cO [.int .i64 0,.int .i64 0])) (List.rec (motive:=λ_=>Option AV) (some (.cO [.int .i64 0,.int .i64 0])) (λq _ r=>pick2 (decide (s=q.1)) (some (.cO [.int .i64 q.2.1,.int .i64 q.2.2])) r) adi):=by kernel_rfl
   rw[h,bz]
   have key:∀m:List (List UInt8×Int×Int),(List.rec (motive:=λ_=>Option AV) (some (.cO [.int .i64 0,.int .i64 0])) (λq _ r=>pick2 (decide (s=q.1)) (some (.cO [.int .i64 q.2.1,.int .i64 q.2.2])) r) m:Option AV)=some (.cO [.int .i64 (ef s m).1,.int .i64 (ef s m).2]):=by
    intro m
    induction m with
    |nil=>rfl
    |
     cons q m ih =>
     show pick2 (decide (s=q.1)) _ (List.rec (motive:=λ_=>Option AV) _ _ m)=_
     rw[ih,ef];by_cases hq:s=q.1
     .
      rw[decide_eq_true hq,if_pos hq]
     rw[decide_eq_false hq,if_neg hq]
   rw[key];unfold Px.bin;by_cases c1:k=4
   .
    simp only[if_pos c1];rfl
   simp only[if_neg c1];rfl
  cases hg
def M5:List qB:=(168,[none],tC Wj)::(169,[none],tC Wk)::(173,[none],tC adj)::M4
theorem CC:cU X0 eo M5:=.cons QL (.cons QN (.cons Uw K9))
end
end Go.Proofs.YtpaddkkfefgkfaaGreatDoor.ex

namespace Go.Proofs.YtpaddkkfefgkfaaGreatDoor.ex
open Go.Tv Go.Ev Go.Px
set_option maxRecDepth 100000
noncomputable section
def Ux (e:Ty):AV->Option (List e.den)
 |.bQ e' l=>fX e' e l
 |.bR=>some []
 |_=>none
def gCl (rec:List Tok->Int->St->fP) (ins:List bM):Option (Bool×List bM×List bM) :=
 match ins with
 |
  [.val L,.val (.int .i64 a),.val (.int .i64 d),.list t0 t x,.val (.int .i64 e),.val (.int .i64 f),.val (.int .i64 s)] =>
  match Ux aL L,fX t ek x with
  |some l,some x=>some (Nat.beq t0 50&&Nat.ble l.length 1000000 && !ltI a 0 && !ltI l.length a && !ltI d 0 && !ltI 50 d&&Nat.ble x.length 200 && !ltI s 1 && !ltI 7 s&&(rec l s ⟨a,d,x,e,f⟩).isSome,
   [.val L,.val (.int .i64 ((rec l s ⟨a,d,x,e,f⟩).getD (false,⟨a,d,x,e,f⟩)).2.a),.val (.int .i64 ((rec l s ⟨a,d,x,e,f⟩).getD (false,⟨a,d,x,e,f⟩)).2.d),.list 50 ek ((rec l s ⟨a,d,x,e,f⟩).getD (false,⟨a,d,x,e,f⟩)).2.x,
    .val (.int .i64 ((rec l s ⟨a,d,x,e,f⟩).getD (false,⟨a,d,x,e,f⟩)).2.e),.val (.int .i64 ((rec l s ⟨a,d,x,e,f⟩).getD (false,⟨a,d,x,e,f⟩)).2.f)],
   [.val (.bool ((rec l s ⟨a,d,x,e,f⟩).getD (false,⟨a,d,x,e,f⟩)).1)])
  |_,_=>none
 |_=>none
def cCl (rec:List Tok->Int->St->fP):Bu:=⟨some (200,[none,none,none,some (50,ek),none,none]),[none],gCl rec⟩
def N1 (rec:List Tok->Int->St->fP):List lS:=[(138,cCl rec)]
abbrev CG:=AV×List AV×Nat×Option Row
abbrev mO:=Option CG
def kR (v:AV) (H:aa):mO :=
 match H.get 0 with
 |
  some (.cells t [c0,c1,c2,c3,c4,c5])=>match c3 with
  |.own id n=>pick2 (Nat.beq t 200) (some (v,[c0,c1,c2,c4,c5],n,H.get id)) none
  |_=>none
 |_=>none
def pCl:List Bool:=[true,true,true,true,true,true,true,false,false]
def QO:bO:=⟨eX [0,1,4] pCl,.none,[]⟩
def Uy (l:List Row):aa:=l.foldl (λM r=>M.push r) ⟨0,0,1,.e⟩
def mCl (L:AV) (n:Nat) (st:St):aa:=Uy [.cells 200 [L,.int .i64 st.a,.int .i64 st.d,.own 1 n,.int .i64 st.e,.int .i64 st.f],.list 50 ek st.x 0 false false]
abbrev cC (rec:List Tok->Int->St->fP) (β:Type):aY β:=cN M5 (N1 rec) β
def jCl (rec:List Tok->Int->St->fP) (L:AV) (s:Int) (r m:Nat) (n:Nat) (st:St):mO:=fJ X0 (cC rec _) QO r 138 pCl kR m (j8 218 [(0,.ptr 0 0),(1,.int .i64 s),(4,.bool false)]) (mCl L n st)
def Jo (rec:List Tok->Int->St->fP) (l:List Tok) (s:Int) (st:St):Bool:=true&&Nat.ble l.length 1000000 && !ltI st.a 0 && !ltI l.length st.a && !ltI st.d 0 && !ltI 50 st.d&&Nat.ble st.x.length 200 && !ltI s 1 && !ltI 7 s&&(rec l s st).isSome
def eY (rec:List Tok->Int->St->fP) (l:List Tok) (s:Int) (st:St):Bool×St:=(rec l s st).getD (false,st)
def wC (b:Bool) (L:AV) (st:St) (n:Nat):mO:=some (.bool b,[L,.int .i64 st.a,.int .i64 st.d,.int .i64 st.e,.int .i64 st.f],n,some (.list 50 ek st.x 0 false false))
def CH (rec:List Tok->Int->St->fP) (L:AV) (l:List Tok) (s:Int) (st:St) (k:St->mO):mO :=
 pick2 (Jo rec l s st&&true) (pick2 (!(eY rec l s st).1) (wC false L (eY rec l s st).2 (eY rec l s st).2.x.length) (k (eY rec l s st).2)) none
def CI (L:AV) (st:St) (nd:Nd) (f:Int) (k:St->Nat->mO) (n:Nat):mO :=
 pick2 (eqI n 200) (wC false L { st with e:=3,f:=f } n) (pick2 (Nat.ble (st.x.length+1) 1000000) (k { st with x:=st.x++[nd] } (st.x.length+1)) none)
set_option maxRecDepth 100000 in
theorem YF (rec:List Tok->Int->St->fP) (l:List Tok) (s:Int) (r m n:Nat) (a d e f:Int) (x:List Nd):jCl rec (.bQ aL l) s r (m+1) n ⟨a,d,x,e,f⟩ =
 pick2 (ltI a l.length) (Option.rec (motive:=λ_=>mO) none (λt=>pick2 (ltI (Px.bin t).2 s) (wC true (.bQ aL l) ⟨a,d,x,e,f⟩ n)
  (CH rec (.bQ aL l) l (IntKind.wrap .i64 ((Px.bin t).2+1)) ⟨IntKind.wrap .i64 (a+1),d,x,e,f⟩ λo =>
   CI (.bQ aL l) o ((Px.bin t).1,0,[],IntKind.wrap .i64 (n-1),IntKind.wrap .i64 (o.x.length-1)) a (λo' n'=>jCl rec (.bQ aL l) s r m n' o') o.x.length)) (aS l a)) (wC true (.bQ aL l) ⟨a,d,x,e,f⟩ n):=by kernel_rfl
def sgT (t:Tok) (s:List UInt8):Bool:=eqI t.1 4&&decide (t.2.2.1=s)
def CJ (L:AV) (st:St) (k:St->mO) (n:Nat):mO :=
 pick2 (eqI st.d 50) (wC false L { st with e:=3,f:=st.a } n) (k { st with d:=IntKind.wrap .i64 (st.d+1),a:=IntKind.wrap .i64 (st.a+1) })
def QS (L:AV) (a d e f:Int) (x:List Nd) (s:Int):List bM:=[.val L,.val (.int .i64 a),.val (.int .i64 d),.list 50 ek x,.val (.int .i64 e),.val (.int .i64 f),.val (.int .i64 s)]
def QT (rec:List Tok->Int->St->fP) (l:List Tok) (st:St) (K:St->Nat->mO) (t:Tok):mO :=
 pick2 (pP bf t).isSome (CI (.bQ aL l) { st with a:=IntKind.wrap .i64 (st.a+1) } ((pP bf t).getD zNd) st.a K st.x.length)
  (pick2 (pref t).isSome (CJ (.bQ aL l) st (λs1=>CH rec (.bQ aL l) l 7 s1 λo =>
   pick2 (!eqI ((pref t).getD 0) 0) (CI (.bQ aL l) { o with d:=IntKind.wrap .i64 (o.d-1) } ((pref t).getD 0,0,[],IntKind.wrap .i64 (o.x.length-1),0) st.a K o.x.length) (K { o with d:=IntKind.wrap .i64 (o.d-1) } o.x.length)) st.x.length)
   (pick2 (sgT t [40]) (CJ (.bQ aL l) st (λs1=>CH rec (.bQ aL l) l 1 s1 λo =>
    pick2 (!ltI o.a l.length) (wC false (.bQ aL l) { o with e:=4,f:=o.a } o.x.length) (Option.rec (motive:=λ_=>mO) none (λc=>pick2 (!sgT c [41]) (wC false (.bQ aL l) { o with e:=4,f:=o.a } o.x.length)
     (K { o with d:=IntKind.wrap .i64 (o.d-1),a:=IntKind.wrap .i64 (o.a+1) } o.x.length)) (aS l o.a))) st.x.length)
    (wC false (.bQ aL l) { st with e:=4,f:=st.a } st.x.length)))
set_option maxRecDepth 100000 in
theorem Uz (rec:List Tok->Int->St->fP) (l:List Tok) (s:Int) (r:Nat) (a d e f:Int) (x:List Nd) :
 ag X0 (cC rec CG) QO r 138 [.ptr 0 0,.int .i64 s] (dJ 200 6 (QS (.bQ aL l) a d e f x s)) kR =
 pick2 (!ltI a l.length) (wC false (.bQ aL l) ⟨a,d,x,4,a⟩ x.length) (Option.rec (motive:=λ_=>mO) none (QT rec l ⟨a,d,x,e,f⟩ (λo n=>jCl rec (.bQ aL l) s r r n o)) (aS l a)):=by kernel_rfl
end
end Go.Proofs.YtpaddkkfefgkfaaGreatDoor.ex

namespace Go.Proofs.YtpaddkkfefgkfaaGreatDoor.ex
open Go.Tv Go.Ev Go.Px
set_option maxRecDepth 100000
noncomputable section
theorem getI_at? {α:Type} (l:List α) (i:Int):aS l i=at? l i:=by cases i<;>rfl
structure BD (l:List Tok) (st:St):Prop where
 len:l.length<=1000000
 a0:0<=st.a
 a1:st.a<=(l.length:Int)
 d0:0<=st.d
 d1:st.d<=50
 x:st.x.length<=200
def NY (L:AV):fP->mO
 |some (b,st)=>wC b L st st.x.length
 |none=>none
def Ag (L:AV) (r:fP) (k:St->mO):mO :=
 match r with
 |some (true,o)=>k o
 |some (false,o)=>wC false L o o.x.length
 |none=>none
theorem QU (L:AV) (r:fP) (k:St->fP):NY L (wu r k)=Ag L r λo=>NY L (k o):=by
 unfold wu Ag
 split<;>rfl
theorem bind_congr {L:AV} {r:fP} {k k':St->mO} (h:∀o,r=some (true,o)->k o=k' o):Ag L r k=Ag L r k':=by
 unfold Ag
 split
 .
  exact h _ rfl
 .
  rfl
 rfl
section
variable {rec:List Tok->Int->St->fP} {l:List Tok}
theorem GC {L:AV} {s:Int} {st:St} {k:St->mO} (h:BD l st) (h1:1<=s) (h7:s<=7):CH rec L l s st k=Ag L (rec l s st) k:=by
 unfold CH Jo eY Ag
 rw[cP h.len,cz (h.a0),cz h.a1,cz h.d0,cz h.d1,cP h.x,cz h1,cz h7]
 cases hr:rec l s st with
 |none=>rfl
 |
  some q =>
  obtain ⟨b,o⟩:=q;cases b<;>rfl
theorem Ah {L:AV} {st:St} {nd:Nd} {f:Int} {k:St->Nat->mO} {k':St->fP} (h:BD l st) (hk:st.x.length≠200->k { st with x:=st.x++[nd] } (st.x.length+1)=NY L (k' { st with x:=st.x++[nd] })):CI L st nd f k st.x.length=NY L (fK st nd f k'):=by
 unfold CI fK
 by_cases h2:st.x.length=200
 .
  rw[if_pos h2,zU (by omega)];rfl
 rw[if_neg h2,xy (by omega),cP (by have:=h.x;omega)]
 exact hk h2
theorem QV {L:AV} {st:St} {k:St->mO} {k':St->fP} (h:BD l st) (ha:st.a<(l.length:Int)) (hk:st.d≠50->k { st with d:=st.d+1,a:=st.a+1 }=NY L (k' { st with d:=st.d+1,a:=st.a+1 })):CJ L st k st.x.length=NY L (iJ st k'):=by
 unfold CJ iJ
 have:=h.len
 have:=h.a0
 have:=h.d0
 have:=h.d1
 by_cases h2:st.d=50
 .
  rw[if_pos h2,zU h2];rfl
 rw[if_neg h2,xy h2,i64_in (n:=st.d+1) (by omega) (by omega),i64_in (n:=st.a+1) (by omega) (by omega)]
 exact hk h2
theorem QW (t:Tok) (s:List UInt8):sgT t s=iI t s:=wB t.1 t.2.1 t.2.2.2 t.2.2.1 s
def UA (rec:List Tok->Int->St->fP) (l:List Tok):Prop:=∀s st o,1<=s->BD l st->rec l s st=some (true,o)->Grown bf l st o
theorem BD.grown {st o:St} (h:BD l st) (g:Grown bf l st o):BD l o:=by
 obtain ⟨t,_,_,h3,h4,h5,_,_,h8⟩:=g
 exact ⟨h.len,by have:=h.a0;omega,h4,by rw[h5];exact h.d0,by rw[h5];exact h.d1,h8⟩
theorem Wl (hf:UA rec l) (s:Int) (hs:1<=s) (r:Nat):∀(m:Nat) (st:St),BD l st->jCl rec (.bQ aL l) s r m st.x.length st=NY (.bQ aL l) (bE l (rec l) s m st)
 |0,st,_=>rfl
 |
  m+1,⟨a,d,x,e,f⟩,h=>by
  have hlen:=h.len;have ha0:=h.a0;simp only at ha0;rw[show (⟨a,d,x,e,f⟩:St).x.length=x.length from rfl,YF,getI_at?];unfold bE;cases cw:at? l a with
  |
   none =>
   have hge:(l.length:Int)<=a:=by
    unfold at? at cw;split at cw
    .
     rename_i n;have:=List.getElem?_eq_none_iff.1 cw;simp;omega
    omega
   rw[cz hge];rfl
  |
   some t =>
   have hlt:=dL cw;rw[lQ hlt.2];show pick2 (ltI (Px.bin t).2 s) _ _=_;simp only;rw[aV];by_cases hb:(Px.bin t).2<s
   .
    rw[if_pos hb,if_pos hb];rfl
   rw[if_neg hb,if_neg hb];have Wm:=QI (t:=t) (by omega)
   have hbd:BD l ⟨a+1,d,x,e,f⟩:=⟨hlen,by show 0<=a+1;omega,by show a+1<=_;omega,h.d0,h.d1,h.x⟩
   rw[i64_in (n:=(Px.bin t).2+1) (by omega) (by omega),i64_in (n:=a+1) (by omega) (by omega),GC hbd (by omega) (by omega),QU]
   refine bind_congr λo ho=>?_
   have hg:=hbd.grown (hf _ _ _ (by omega) hbd ho)
   have hx:=h.x;simp only at hx;have hox:=hg.x;rw[i64_in (n:=(x.length:Int)-1) (by omega) (by omega),i64_in (n:=(o.x.length:Int)-1) (by omega) (by omega)]
   refine Ah (l:=l) hg λhne=>?_
   have:=Wl hf s hs r m { o with x:=o.x++[((Px.bin t).1,0,[],(x.length:Int)-1,(o.x.length:Int)-1)] } ⟨hg.len,hg.a0,hg.a1,hg.d0,hg.d1,by show (o.x++[_]).length<=200;simp;omega⟩
   rw[show ({ o with x:=o.x++[((Px.bin t).1,0,[],(x.length:Int)-1,(o.x.length:Int)-1)] }:St).x.length=o.x.length+1 by simp] at this
   exact this
theorem QX (hf:UA rec l) {K:St->Nat->mO} {K':St->fP} (hK:∀o,BD l o->K o o.x.length=NY (.bQ aL l) (K' o)) {st:St} (h:BD l st) {t:Tok} (cw:at? l st.a=some t):QT rec l st K t=NY (.bQ aL l) (cY bf l (rec l) st K'):=by
 have hlen:=h.len
 have ha0:=h.a0
 have hlt:=dL cw
 have hx:=h.x
 have W8:=h.d0
 have Yr:=h.d1
 unfold QT cY
 rw[cw]
 simp only
 cases ho:pP bf t with
 |
  some n =>
  show CI _ _ _ _ _ _=_;rw[i64_in (n:=st.a+1) (by omega) (by omega)]
  refine Ah (l:=l) (st:={ st with a:=st.a+1 }) ⟨hlen,by show 0<=st.a+1;omega,by show st.a+1<=_;omega,W8,Yr,hx⟩ λhne=>?_
  have hne:st.x.length≠200:=hne;have:=hK { st with a:=st.a+1,x:=st.x++[n] } ⟨hlen,by show 0<=st.a+1;omega,by show st.a+1<=_;omega,W8,Yr,by show (st.x++[n]).length<=200;simp;omega⟩
  rw[show ({ st with a:=st.a+1,x:=st.x++[n] }:St).x.length=st.x.length+1 by simp] at this
  exact this
 |
  none =>
  show pick2 (pref t).isSome _ _=_;simp only
  have inner:∀(s:Int),1<=s->s<=7->∀(q:St->mO) (q':St->fP),(∀o,BD l o->o.d=st.d+1->q o=NY (.bQ aL l) (q' o))->CJ (.bQ aL l) st (λs1=>CH rec (.bQ aL l) l s s1 q) st.x.length=NY (.bQ aL l) (iJ st λs1=>wu (rec l s s1) q'):=λs h1 h7 q q' hq=>by
   refine QV (l:=l) h hlt.2 λhne=>?_
   have hbd:BD l { st with d:=st.d+1,a:=st.a+1 }:=⟨hlen,by show 0<=st.a+1;omega,by show st.a+1<=_;omega,by show 0<=st.d+1;omega,by show st.d+1<=50;omega,hx⟩
   rw[GC hbd h1 h7,QU];refine bind_congr λo hr=>?_
   have hg:=hf _ _ _ h1 hbd hr;refine hq o (hbd.grown hg) ?_;obtain ⟨_,_,_,_,_,h5,_⟩:=hg;exact h5
  cases hp:pref t with
  |
   some op =>
   show CJ _ _ _ _=_;simp only;refine inner 7 (by decide) (by decide) _ _ λo Wm hod=>?_
   have hox:=Wm.x;have MT:BD l { o with d:=o.d-1 }:=⟨hlen,Wm.a0,Wm.a1,by show 0<=o.d-1;omega,by show o.d-1<=50;omega,hox⟩
   show pick2 (!eqI op 0) _ _=_;rw[bz,i64_in (n:=o.d-1) (by omega) (by omega),i64_in (n:=(o.x.length:Int)-1) (by omega) (by omega)]
   by_cases h0:op=0
   .
    rw[if_pos h0,if_pos h0];exact hK _ MT
   rw[if_neg h0,if_neg h0];refine Ah (l:=l) (st:={ o with d:=o.d-1 }) MT λhne=>?_
   have hne:o.x.length≠200:=hne;have:=hK { o with d:=o.d-1,x:=o.x++[(op,0,[],(o.x.length:Int)-1,0)] } ⟨hlen,MT.a0,MT.a1,MT.d0,MT.d1,by show (o.x++[_]).length<=200;simp;omega⟩
   rw[show ({ o with d:=o.d-1,x:=o.x++[(op,0,[],(o.x.length:Int)-1,0)] }:St).x.length=o.x.length+1 by simp] at this
   exact this
  |
   none =>
   show pick2 (sgT t [40]) _ _=_;rw[QW,pick2_eq];by_cases h40:iI t [40]=true
   .
    rw[if_pos h40];simp only[h40,if_true];refine inner 1 (by decide) (by decide) _ _ λo Wm hod=>?_
    have hoa:=Wm.a0;have hol:=Wm.a1;rw[getI_at?];cases UB:at? l o.a with
    |
     none =>
     have hge:(l.length:Int)<=o.a:=by
      unfold at? at UB;split at UB
      .
       rename_i n hn;have:=List.getElem?_eq_none_iff.1 UB;rw[hn];simp;omega
      rename_i hn;rw[hn] at hoa;omega
     rw[cz hge];rfl
    |
     some c =>
     have YD:=dL UB;rw[lQ YD.2];show pick2 (!sgT c [41]) _ _=_;simp only;rw[QW,i64_in (n:=o.d-1) (by omega) (by omega),i64_in (n:=o.a+1) (by omega) (by omega)]
     cases iI c [41] with
     |true=>exact hK { o with d:=o.d-1,a:=o.a+1 } ⟨hlen,by show 0<=o.a+1;omega,by show o.a+1<=_;omega,by show 0<=o.d-1;omega,by show o.d-1<=50;omega,Wm.x⟩
     |false=>rfl
   rw[if_neg h40];simp only[h40];rfl
end
theorem adm {rec:List Tok->Int->St->fP} {l:List Tok} (hf:UA rec l) {st:St} (h:BD l st) {s:Int} (hs:1<=s) :
 ag X0 (cC rec CG) QO (l.length+1) 138 [.ptr 0 0,.int .i64 s] (dJ 200 6 (QS (.bQ aL l) st.a st.d st.e st.f st.x s)) kR=NY (.bQ aL l) (cY bf l (rec l) st (bE l (rec l) s (l.length+1))):=by
 obtain ⟨a,d,x,e,f⟩:=st
 rw[Uz,getI_at?]
 cases cw:at? l a with
 |
  none =>
  have ha0:=h.a0;simp only at ha0
  have hge:(l.length:Int)<=a:=by
   unfold at? at cw;split at cw
   .
    rename_i n;have:=List.getElem?_eq_none_iff.1 cw;simp;omega
   omega
  rw[cz hge];unfold cY;simp only[cw];rfl
 |
  some t =>
  have hlt:=dL cw;rw[lQ hlt.2];exact QX hf (λo ho=>Wl hf s hs _ _ o ho) h cw
set_option maxRecDepth 100000 in
theorem QZ (rec:List Tok->Int->St->fP) (s:Int) (r:Nat) (a d e f:Int) (x:List Nd) :
 ag X0 (cC rec CG) QO r 138 [.ptr 0 0,.int .i64 s] (dJ 200 6 (QS .bR a d e f x s)) kR=pick2 (!ltI a 0) (wC false .bR ⟨a,d,x,4,a⟩ x.length) none:=by kernel_rfl
theorem Wn {rec:List Tok->Int->St->fP} {L:AV} (hL:Bt L=true) {a d e f s:Int} {x:List Nd} (hN:cA X0 eo 138 (cCl rec)) {r:Nat} {b:Bool} {st:St}
 (h:ag X0 (cC rec CG) QO r 138 [.ptr 0 0,.int .i64 s] (dJ 200 6 (QS L a d e f x s)) kR=wC b L st st.x.length) :
 ∃vs M1 cs1,xS X0 eo 138 [.ptr 0 0,.int .i64 s] (dJ 200 6 (QS L a d e f x s)) vs M1/\M1.get 0=some (.cells 200 cs1)/\cs1.length=6 /\
  lq M1 [0] (cs1++vs) [.val L,.val (.int .i64 st.a),.val (.int .i64 st.d),.list 50 ek st.x,.val (.int .i64 st.e),.val (.int .i64 st.f),.val (.bool b)]:=by
 obtain ⟨v,M1,h1,h2⟩:=oy (λargs=>lt.aX rfl args) (eB CC (.cons hN .nil) CG) h
 unfold kR at h1
 split at h1
 .
  rename_i t c0 c1 c2 c3 c4 c5 hg;split at h1
  .
   rename_i id n;rw[pick2_eq] at h1;split at h1
   .
    rename_i ht;obtain rfl:=Nat.eq_of_beq_eq_true ht;simp only[Option.some.injEq,Prod.mk.injEq,List.cons.injEq,and_true] at h1;obtain ⟨rfl,⟨rfl,rfl,rfl,rfl,rfl⟩,rfl,hrow⟩:=h1;refine ⟨[.bool b],M1,_,h2 [.bool b] rfl,hg,rfl,rfl,hL,rfl,rfl,rfl,rfl,.inl ⟨id,0,false,rfl,hrow,?_,rfl,rfl,rfl,rfl,rfl,rfl,trivial⟩⟩;intro hm;have:id=0:=by simpa using hm
    subst this;rw[hg] at hrow;cases hrow
   cases h1
  cases h1
 cases h1
theorem Jp (k:Nat) (l:List Tok):UA (λl=>av bf l k) l:=λs st o h1 hb hr=>fj l k s st o h1 hb.x hb.a1 hr
theorem Ef:∀k:Nat,cA X0 eo 138 (cCl λl=>av bf l k)
 |
  0=>by
  intro ins outs rs hg;exfalso;have hg:gCl (λl=>av bf l 0) ins=some (true,outs,rs):=hg
  unfold gCl at hg;split at hg
  .
   split at hg
   .
    simp[av] at hg
   cases hg
  cases hg
 |
  k+1=>by
  intro ins outs rs hg;have hg:gCl (λl=>av bf l (k+1)) ins=some (true,outs,rs):=hg
  unfold gCl at hg;split at hg
  case h_2=>cases hg
  rename_i L a d t0 t x e f s _;split at hg
  case h_2=>cases hg
  rename_i l x' hl hx;obtain ⟨rfl,hx2⟩:=bh hx;have hx2:x=x':=hx2;subst hx2;simp only[Option.some.injEq,Prod.mk.injEq,Bool.and_eq_true,Bool.not_eq_true'] at hg;obtain ⟨⟨⟨⟨⟨⟨⟨⟨⟨⟨g0,g1⟩,g2⟩,g3⟩,g4⟩,g5⟩,g6⟩,g7⟩,g8⟩,g9⟩,rfl,rfl⟩:=hg;obtain rfl:=Nat.eq_of_beq_eq_true g0;have Bw:∀{p q:Int},ltI p q=false->q<=p:=λ{p q} h=>by rw[ltI_spec] at h;simpa using h
  have hbd:BD l ⟨a,d,x,e,f⟩:=⟨Nat.le_of_ble_eq_true g1,Bw g2,Bw g3,Bw g4,Bw g5,Nat.le_of_ble_eq_true g6⟩;obtain ⟨⟨b,st⟩,hr⟩:=Option.isSome_iff_exists.1 g9;rw[hr];have hc:av bf l (k+1) s ⟨a,d,x,e,f⟩=cY bf l (av bf l k) ⟨a,d,x,e,f⟩ (bE l (av bf l k) s (l.length+1)):=rfl;cases L with
  |
   bQ e' l0 =>
   obtain ⟨rfl,vo⟩:=bh hl;have vo:l0=l:=vo;subst vo;have hrun:=adm (rec:=λl=>av bf l k) (Jp k l0) hbd (Bw g7)
   rw[<-hc,hr] at hrun;exact λ_ _=>Wn rfl (Ef k) hrun
  |
   bR =>
   have hl:some []=some l:=hl;cases hl;have ha:a=0:=by have:=hbd.a0;have:=hbd.a1;simp only[List.length_nil] at *;omega
   subst ha;have hrun:=QZ (λl=>av bf l k) s 5 0 d e f x
   have SX:(false,(⟨0,d,x,4,0⟩:St))=(b,st):=Option.some.inj (hc.symm.trans hr);cases SX;exact λ_ _=>Wn rfl (Ef k) hrun
  |_=>cases hl
end
end Go.Proofs.YtpaddkkfefgkfaaGreatDoor.ex

namespace Go.Proofs.YtpaddkkfefgkfaaGreatDoor.ex
open Go.Tv Go.Ev Go.Px
set_option maxRecDepth 100000
noncomputable section
def uI (v:AV) (H:aa):Option (AV×Option Row) :=
 match v with
 |.cO (.own i _::_)=>some (v,H.get i)
 |.own i _=>some (v,H.get i)
 |_=>some (v,none)
theorem GH {v:AV} {H:aa} {r:AV×Option Row} (h:uI v H=some r):v=r.1:=by
 unfold uI at h
 split at h<;>(cases h;rfl)
def ai (l:List Tok) (a:Int):List Nd×Int×Int×Int:=(fB bf l a).getD ([],0,0,0)
def Al (e f:Int):Option (AV×Option Row):=some (.cO [.bR,.int .i64 0,.agg [.int .i64 e,.int .i64 f]],none)
def Am (x:List Nd) (n:Nat) (a:Int):Option (AV×Option Row):=some (.cO [.own 2 n,.int .i64 a,.agg [.int .i64 0,.int .i64 0]],some (.list 50 ek x 0 false false))
abbrev cM (M:List qB) (rec:List Tok->Int->St->fP) (β:Type):aY β:=cN M (N1 rec) β
set_option maxRecDepth 100000 in
theorem UC (rec:List Tok->Int->St->fP) (l:List Tok) (a:Int) (r:Nat):ag X0 (cM M5 rec _) dc r 93 [.bQ aL l,.int .i64 a] aa.empty uI =
 pick2 (ltI a 0) (Al 2 0) (pick2 (ltI l.length a) (Al 2 0) (pick2 (Jo rec l 1 ⟨a,0,[],0,0⟩&&true) (pick2 (!(eY rec l 1 ⟨a,0,[],0,0⟩).1) (Al (eY rec l 1 ⟨a,0,[],0,0⟩).2.e (eY rec l 1 ⟨a,0,[],0,0⟩).2.f)
  (Am (eY rec l 1 ⟨a,0,[],0,0⟩).2.x (eY rec l 1 ⟨a,0,[],0,0⟩).2.x.length (eY rec l 1 ⟨a,0,[],0,0⟩).2.a)) none)):=by kernel_rfl
def gPs (args:List AV):Option (Bool×List bL) :=
 match args with
 |
  [L,.int .i64 a]=>match Ux aL L with
  |some l=>some (Nat.ble l.length 1000000,[.list 50 ek (ai l a).1,.val (.int .i64 (ai l a).2.1),.val (.agg [.int .i64 (ai l a).2.2.1,.int .i64 (ai l a).2.2.2])])
  |none=>none
 |_=>none
theorem MX {e:Ty} {a:AV} {l:List e.den} (h:Ux e a=some l):a = .bQ e l\/(a = .bR/\l=[]):=by
 unfold Ux at h
 split at h
 .
  obtain ⟨he,h2⟩:=bh h;subst he;have h2:_=l:=h2;subst h2;exact .inl rfl
 .
  cases h;exact .inr ⟨rfl,rfl⟩
 cases h
theorem Q8 (rec:List Tok->Int->St->fP) (a:Int) (r:Nat):ag X0 (cM M5 rec _) dc r 93 [.bR,.int .i64 a] aa.empty uI =
 pick2 (ltI a 0) (Al 2 0) (pick2 (ltI 0 a) (Al 2 0) (pick2 (Jo rec [] 1 ⟨a,0,[],0,0⟩&&true) (pick2 (!(eY rec [] 1 ⟨a,0,[],0,0⟩).1) (Al (eY rec [] 1 ⟨a,0,[],0,0⟩).2.e (eY rec [] 1 ⟨a,0,[],0,0⟩).2.f)
  (Am (eY rec [] 1 ⟨a,0,[],0,0⟩).2.x (eY rec [] 1 ⟨a,0,[],0,0⟩).2.x.length (eY rec [] 1 ⟨a,0,[],0,0⟩).2.a)) none)):=by kernel_rfl
theorem YH:aT X0 eo 93 gPs:=by
 intro args rs hg
 unfold gPs at hg
 split at hg
 case h_2=>cases hg
 rename_i L a
 split at hg
 case h_2=>cases hg
 rename_i l hl
 simp only[Option.some.injEq,Prod.mk.injEq] at hg
 obtain ⟨hb,rfl⟩:=hg
 have hb:=Nat.le_of_ble_eq_true hb
 have hrun:ag X0 (cM M5 (λl0=>av bf l0 (l.length+1)) _) dc 5 93 [L,.int .i64 a] aa.empty uI =
  if (ai l a).2.2.1=0 then Am (ai l a).1 (ai l a).1.length (ai l a).2.1 else Al (ai l a).2.2.1 (ai l a).2.2.2:=by
  have e:ag X0 (cM M5 (λl0=>av bf l0 (l.length+1)) _) dc 5 93 [L,.int .i64 a] aa.empty uI =
   pick2 (ltI a 0) (Al 2 0) (pick2 (ltI l.length a) (Al 2 0) (pick2 (Jo (λl0=>av bf l0 (l.length+1)) l 1 ⟨a,0,[],0,0⟩&&true) (pick2 (!(eY (λl0=>av bf l0 (l.length+1)) l 1 ⟨a,0,[],0,0⟩).1) (Al (eY (λl0=>av bf l0 (l.length+1)) l 1 ⟨a,0,[],0,0⟩).2.e (eY (λl0=>av bf l0 (l.length+1)) l 1 ⟨a,0,[],0,0⟩).2.f)
    (Am (eY (λl0=>av bf l0 (l.length+1)) l 1 ⟨a,0,[],0,0⟩).2.x (eY (λl0=>av bf l0 (l.length+1)) l 1 ⟨a,0,[],0,0⟩).2.x.length (eY (λl0=>av bf l0 (l.length+1)) l 1 ⟨a,0,[],0,0⟩).2.a)) none)):=by
   rcases MX hl with rfl|⟨rfl,rfl⟩
   .
    exact UC _ l a 5
   exact Q8 _ a 5
  rw[e,aV,aV];have key:∀r,fB bf l a=some r->ai l a=r:=λr h=>by unfold ai;rw[h];rfl
  by_cases h1:a<0
  .
   rw[if_pos h1,key ([],0,2,0) (by unfold fB;rw[if_pos (Or.inl h1)])];rfl
  rw[if_neg h1];by_cases h2:(l.length:Int)<a
  .
   rw[if_pos h2,key ([],0,2,0) (by unfold fB;rw[if_pos (Or.inr h2)])];rfl
  rw[if_neg h2];have hno:¬(a<0\/(l.length:Int)<a):=by omega
  have hbd:BD l ⟨a,0,[],0,0⟩:=⟨hb,by show 0<=a;omega,by show a<=_;omega,Int.le_refl 0,by show (0:Int)<=50;decide,by simp⟩
  obtain ⟨⟨b,st⟩,hr⟩:=mN (nm:=bf) l (l.length+1) 1 ⟨a,0,[],0,0⟩ (by decide) (by simp) hbd.a0 hbd.a1 (by show _-a<_;omega)
  unfold Jo eY;rw[cP hb,cz hbd.a0,cz hbd.a1,cz hbd.d0,cz hbd.d1,cP hbd.x];simp only[hr];cases b with
  |true=>rw[key (st.x,st.a,0,0) (by unfold fB;rw[if_neg hno,hr])];rfl
  |
   false =>
   have hne:=yq l _ _ _ st hr;rw[key ([],0,st.e,st.f) (by unfold fB;rw[if_neg hno,hr])]
   simp only;rw[if_neg hne];rfl
 obtain ⟨r,hr⟩:=o6 (nm:=bf) l a
 by_cases h0:(ai l a).2.2.1=0
 .
  rw[if_pos h0] at hrun;unfold Am at hrun;obtain ⟨v,M1,h1,h2⟩:=oy (λargs=>lt.aX rfl args) (eB CC (.cons (Ef (l.length+1)) .nil) (AV×Option Row)) hrun
  have hv:=GH h1;subst hv;refine ⟨_,M1,h2 [.own 2 (ai l a).1.length,.int .i64 (ai l a).2.1,.agg [.int .i64 0,.int .i64 0]] rfl,rfl,.inl ⟨2,0,false,rfl,?_,by simp,rfl,rfl,?_,rfl,trivial⟩⟩
  .
   exact (Prod.mk.inj (Option.some.inj h1)).2
  have hz:(ai l a).2.2.2=0:=by
   unfold ai at h0 ⊢;rw[hr] at h0 ⊢;unfold fB at hr;split at hr
   .
    cases hr;exact absurd h0 (by decide)
   split at hr
   .
    cases hr;rfl
   .
    rename_i st hc;cases hr;exact absurd h0 (yq l _ _ _ st hc)
   cases hr
  rw[h0,hz]
 rw[if_neg h0] at hrun
 unfold Al at hrun
 obtain ⟨v,M1,h1,h2⟩:=oy (λargs=>lt.aX rfl args) (eB CC (.cons (Ef (l.length+1)) .nil) (AV×Option Row)) hrun
 have hv:=GH h1
 subst hv
 have hz:(ai l a).1=[]/\(ai l a).2.1=0:=by
  unfold ai at h0 ⊢;rw[hr] at h0 ⊢;exact (uP (nm:=bf) (l:=l) (a:=a) hr).1 h0
 refine ⟨_,M1,h2 [.bR,.int .i64 0,.agg [.int .i64 (ai l a).2.2.1,.int .i64 (ai l a).2.2.2]] rfl,rfl,.inr ⟨rfl,hz.1,?_,rfl,rfl,rfl,trivial⟩⟩
 rw[hz.2]
def M6:List qB:=(93,[some aL,none],gPs)::M5
theorem uQ:cU X0 eo M6:=.cons YH CC
end
end Go.Proofs.YtpaddkkfefgkfaaGreatDoor.ex
