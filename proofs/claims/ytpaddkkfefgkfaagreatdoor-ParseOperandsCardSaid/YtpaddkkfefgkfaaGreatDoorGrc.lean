/- Expressions: the setting of the laws on lines. Expressions: what a token alone is. Expressions: the contract of climb, as it calls itself. Expressions: the contract of climb. Expressions: the contract of Parse. -/
import Derived.Test.YtpaddkkfefgkfaaGreatDoorGrb
import Derived.Test.YtpaddkkfefgkfaaGreatDoorLyh
import Derived.Test.YtpaddkkfefgkfaaGreatDoorLyg
import Derived.Test.YtpaddkkfefgkfaaGreatDoorGxa
set_option linter.unusedVariables false
set_option linter.unusedSimpArgs false

namespace Go.Proofs.YtpaddkkfefgkfaaGreatDoor.ex
open Go.Tv Go.Ev
noncomputable section
abbrev X0:cY:=lt.Xg lt.oH
abbrev cI:=bu X0 lt.kn
abbrev bK:bG:=lt.bK
def cN (M:List kH) (N:List jo) (β:Type):aU β:=Oy X0 (KQ M) (W7 N) lt.inl 400 β 40
theorem bR {M:List kH} {N:List jo} (hM:cg X0 cI M) (hN:eI X0 cI N) (β:Type):aV X0 cI (cN M N β):=Oz hM hN (λf h args=>lt.aQ h args) 400 40 β
theorem n0:eI X0 cI []:=.nil
abbrev ay:List UInt8->Bool:=lt.ay
def M3:List kH:=(16,[none],lt.WY)::(27,[none],lt.WW)::(15,[none],lt.gNm)::lt.R1
theorem Jm:cg X0 cI M3:=.cons (lt.WZ lt.oH) (.cons lt.abk (.cons (lt.abq lt.oH) (lt.UF lt.oH)))
end
end Go.Proofs.YtpaddkkfefgkfaaGreatDoor.ex

namespace Go.Proofs.YtpaddkkfefgkfaaGreatDoor.ex
open Go.Tv Go.Ev Go.Px
set_option maxRecDepth 100000
noncomputable section
def afe (t:Tok):AV:=.agg [.int .i64 t.1,.int .i64 t.2.1,.str t.2.2.1,.int .i64 t.2.2.2]
def OG (n:Nd):AV:=.agg [.int .i64 n.1,.int .i64 n.2.1,.str n.2.2.1,.int .i64 n.2.2.2.1,.int .i64 n.2.2.2.2]
def Zk:Nd:=(0,0,[],0,0)
abbrev aH:Ty:=.pair (.int .i64) (.pair (.int .i64) (.pair .str (.int .i64)))
abbrev bW:Ty:=.pair (.int .i64) (.pair (.int .i64) (.pair .str (.pair (.int .i64) (.int .i64))))
def sq (f:Tok->List aZ) (args:List AV):Option (Bool×List aZ) :=
 match args with
 |[.agg [.int .i64 k,.int .i64 n,.str s,.int .i64 a]]=>some (true,f (k,n,s,a))
 |_=>none
def W9 (args:List AV):Option (Bool×List aZ) :=
 match args with
 |[.agg [.int .i64 k,.int .i64 n,.str s,.int .i64 a],.str t]=>some (true,[.val (.bool (eqI k 4&&decide (s=t)))])
 |_=>none
theorem Si:aI X0 cI 172 W9 :=
 aG (λargs=>lt.aQ rfl args) (bR Jm n0) λargs rs hg=>by
  unfold W9 at hg;split at hg
  .
   rename_i k n s a t;simp only[Option.some.injEq,Prod.mk.injEq] at hg;obtain ⟨h1,rfl⟩:=hg;refine ⟨[.bool (eqI k 4&&decide (s=t))],bK,5,?_,rfl,rfl⟩;have h:ag X0 (cN M3 [] AV) bK 5 172 [.agg [.int .i64 k,.int .i64 n,.str s,.int .i64 a],.str t] aa.empty (λv _=>some v)=pick2 (eqI k 4) (some (.bool (decide (s=t)))) (some (.bool false)):=by kernel_rfl
   rw[h];cases eqI k 4<;>rfl
  cases hg
def M4:List kH:=(172,[none,none],W9)::M3
theorem Jy:cg X0 cI M4:=.cons Si Jm
theorem vw (k n a:Int) (s t:List UInt8):(eqI k 4&&decide (s=t))=dO (k,n,s,a) t:=by
 unfold dO
 have e:(k==4)=decide (k=4):=by rw[Bool.eq_iff_iff];simp
 rw[eqI_spec,e]
def UI (t:Tok):List aZ:=[.val (OG ((tU ay t).getD Zk)),.val (.bool (tU ay t).isSome)]
theorem OH:aI X0 cI 168 (sq UI) :=
 aG (λargs=>lt.aQ rfl args) (bR Jy n0) λargs rs hg=>by
  unfold sq at hg;split at hg
  .
   rename_i k n s a;simp only[Option.some.injEq,Prod.mk.injEq] at hg;obtain ⟨h1,rfl⟩:=hg;refine ⟨[OG ((tU ay (k,n,s,a)).getD Zk),.bool (tU ay (k,n,s,a)).isSome],bK,5,?_,rfl,rfl⟩
   have h:ag X0 (cN M4 [] AV) bK 5 168 [.agg [.int .i64 k,.int .i64 n,.str s,.int .i64 a]] aa.empty (λv _=>some v) =
    pick2 (eqI k 2) (some (.bZ [OG (1,n,[],0,0),.bool true])) ((λrest=>pick2 (eqI k 1) (pick2 (ay s) (some (.bZ [OG (2,0,s,0,0),.bool true])) rest) rest)
     (pick2 (eqI k 4&&decide (s=[36])) (some (.bZ [OG (3,0,[],0,0),.bool true])) (pick2 (eqI k 4&&decide (s=[36,36])) (some (.bZ [OG (4,0,[],0,0),.bool true])) (some (.bZ [OG Zk,.bool false]))))):=by kernel_rfl
   rw[h,vw k n a,vw k n a];unfold tU;simp only[az];simp only[pick2_eq]
   have rest:(if dO (k,n,s,a) [36]=true then some (AV.bZ [OG (3,0,[],0,0),AV.bool true]) else if dO (k,n,s,a) [36,36]=true then some (AV.bZ [OG (4,0,[],0,0),AV.bool true]) else some (AV.bZ [OG Zk,AV.bool false])) =
    some (jO [OG ((if dO (k,n,s,a) [36]=true then some (3,0,[],0,0) else if dO (k,n,s,a) [36,36]=true then some (4,0,[],0,0) else none).getD Zk),AV.bool (if dO (k,n,s,a) [36]=true then some ((3,0,[],0,0):Nd) else if dO (k,n,s,a) [36,36]=true then some (4,0,[],0,0) else none).isSome]):=by
    by_cases c4:dO (k,n,s,a) [36]=true
    .
     simp only[if_pos c4];rfl
    simp only[if_neg c4];by_cases c5:dO (k,n,s,a) [36,36]=true
    .
     simp only[if_pos c5];rfl
    simp only[if_neg c5];rfl
   by_cases c1:k=2
   .
    simp only[if_pos c1];rfl
   simp only[if_neg c1];by_cases c2:k=1
   .
    by_cases c3:ay s=true
    .
     simp only[if_pos c2,if_pos c3,if_pos (And.intro c2 c3)];rfl
    simp only[if_pos c2,if_neg c3,if_neg (λh:k=1/\ay s=true=>c3 h.2)];exact rest
   simp only[if_neg c2,if_neg (λh:k=1/\ay s=true=>c2 h.1)];exact rest
  cases hg
def UJ (t:Tok):List aZ:=[.val (.int .i64 ((pref t).getD 0)),.val (.bool (pref t).isSome)]
theorem OI:aI X0 cI 169 (sq UJ) :=
 aG (λargs=>lt.aQ rfl args) (bR Jy n0) λargs rs hg=>by
  unfold sq at hg;split at hg
  .
   rename_i k n s a;simp only[Option.some.injEq,Prod.mk.injEq] at hg;obtain ⟨h1,rfl⟩:=hg;refine ⟨[.int .i64 ((pref (k,n,s,a)).getD 0),.bool (pref (k,n,s,a)).isSome],bK,5,?_,rfl,rfl⟩
   have h:ag X0 (cN M4 [] AV) bK 5 169 [.agg [.int .i64 k,.int .i64 n,.str s,.int .i64 a]] aa.empty (λv _=>some v) =
    pick2 (eqI k 4&&decide (s=[45])) (some (.bZ [.int .i64 5,.bool true])) (pick2 (eqI k 4&&decide (s=[126])) (some (.bZ [.int .i64 6,.bool true])) (pick2 (eqI k 4&&decide (s=[43])) (some (.bZ [.int .i64 0,.bool true])) (some (.bZ [.int .i64 0,.bool false])))):=by kernel_rfl
   rw[h,vw k n a,vw k n a,vw k n a];unfold pref;simp only[pick2_eq];by_cases c1:dO (k,n,s,a) [45]=true
   .
    simp only[if_pos c1];rfl
   simp only[if_neg c1];by_cases c2:dO (k,n,s,a) [126]=true
   .
    simp only[if_pos c2];rfl
   simp only[if_neg c2];by_cases c3:dO (k,n,s,a) [43]=true
   .
    simp only[if_pos c3];rfl
   simp only[if_neg c3];rfl
  cases hg
def aby (t:Tok):List aZ:=[.val (.int .i64 (Px.bin t).1),.val (.int .i64 (Px.bin t).2)]
theorem Sj:aI X0 cI 173 (sq aby) :=
 aG (λargs=>lt.aQ rfl args) (bR Jy n0) λargs rs hg=>by
  unfold sq at hg;split at hg
  .
   rename_i k n s a;simp only[Option.some.injEq,Prod.mk.injEq] at hg;obtain ⟨h1,rfl⟩:=hg;refine ⟨[.int .i64 (Px.bin (k,n,s,a)).1,.int .i64 (Px.bin (k,n,s,a)).2],bK,5,?_,rfl,rfl⟩
   have h:ag X0 (cN M4 [] AV) bK 5 173 [.agg [.int .i64 k,.int .i64 n,.str s,.int .i64 a]] aa.empty (λv _=>some v) =
    pick2 (!eqI k 4) (some (.bZ [.int .i64 0,.int .i64 0])) (List.rec (motive:=λ_=>Option AV) (some (.bZ [.int .i64 0,.int .i64 0])) (λq _ r=>pick2 (decide (s=q.1)) (some (.bZ [.int .i64 q.2.1,.int .i64 q.2.2])) r) abx):=by kernel_rfl
   rw[h,aT]
   have key:∀m:List (List UInt8×Int×Int),(List.rec (motive:=λ_=>Option AV) (some (.bZ [.int .i64 0,.int .i64 0])) (λq _ r=>pick2 (decide (s=q.1)) (some (.bZ [.int .i64 q.2.1,.int .i64 q.2.2])) r) m:Option AV)=some (.bZ [.int .i64 (ep s m).1,.int .i64 (ep s m).2]):=by
    intro m
    induction m with
    |nil=>rfl
    |
     cons q m ih =>
     show pick2 (decide (s=q.1)) _ (List.rec (motive:=λ_=>Option AV) _ _ m)=_
     rw[ih,ep];by_cases hq:s=q.1
     .
      rw[decide_eq_true hq,if_pos hq]
     rw[decide_eq_false hq,if_neg hq]
   rw[key];unfold Px.bin;by_cases c1:k=4
   .
    simp only[if_pos c1];rfl
   simp only[if_neg c1];rfl
  cases hg
def M5:List kH:=(168,[none],sq UI)::(169,[none],sq UJ)::(173,[none],sq aby)::M4
theorem BC:cg X0 cI M5:=.cons OH (.cons OI (.cons Sj Jy))
end
end Go.Proofs.YtpaddkkfefgkfaaGreatDoor.ex

namespace Go.Proofs.YtpaddkkfefgkfaaGreatDoor.ex
open Go.Tv Go.Ev Go.Px
set_option maxRecDepth 100000
noncomputable section
def Al (e:Ty):AV->Option (List e.den)
 |.bA e' l=>fk e' e l
 |.br=>some []
 |_=>none
def gCl (rec:List Tok->Int->St->iD) (ins:List bI):Option (Bool×List bI×List bI) :=
 match ins with
 |
  [.val L,.val (.int .i64 a),.val (.int .i64 d),.list t0 t x,.val (.int .i64 e),.val (.int .i64 f),.val (.int .i64 s)] =>
  match Al aH L,fk t bW x with
  |some l,some x=>some (Nat.beq t0 50&&Nat.ble l.length 1000000 && !ltI a 0 && !ltI l.length a && !ltI d 0 && !ltI 50 d&&Nat.ble x.length 200 && !ltI s 1 && !ltI 7 s&&(rec l s ⟨a,d,x,e,f⟩).isSome,
   [.val L,.val (.int .i64 ((rec l s ⟨a,d,x,e,f⟩).getD (false,⟨a,d,x,e,f⟩)).2.a),.val (.int .i64 ((rec l s ⟨a,d,x,e,f⟩).getD (false,⟨a,d,x,e,f⟩)).2.d),.list 50 bW ((rec l s ⟨a,d,x,e,f⟩).getD (false,⟨a,d,x,e,f⟩)).2.x,
    .val (.int .i64 ((rec l s ⟨a,d,x,e,f⟩).getD (false,⟨a,d,x,e,f⟩)).2.e),.val (.int .i64 ((rec l s ⟨a,d,x,e,f⟩).getD (false,⟨a,d,x,e,f⟩)).2.f)],
   [.val (.bool ((rec l s ⟨a,d,x,e,f⟩).getD (false,⟨a,d,x,e,f⟩)).1)])
  |_,_=>none
 |_=>none
def cCl (rec:List Tok->Int->St->iD):yU:=⟨some (200,[none,none,none,some (50,bW),none,none]),[none],gCl rec⟩
def N1 (rec:List Tok->Int->St->iD):List jo:=[(138,cCl rec)]
abbrev BH:=AV×List AV×Nat×Option Row
abbrev lA:=Option BH
def kR (v:AV) (H:aa):lA :=
 match H.get 0 with
 |
  some (.cells t [c0,c1,c2,c3,c4,c5])=>match c3 with
  |.own id n=>pick2 (Nat.beq t 200) (some (v,[c0,c1,c2,c4,c5],n,H.get id)) none
  |_=>none
 |_=>none
def pCl:List Bool:=[true,true,true,true,true,true,true,false,false]
def OJ:bG:=⟨cG [0,1,4] pCl,.none,[]⟩
def Sk (l:List Row):aa:=l.foldl (λM r=>M.push r) ⟨0,0,1,.e⟩
def mCl (L:AV) (n:Nat) (st:St):aa:=Sk [.cells 200 [L,.int .i64 st.a,.int .i64 st.d,.own 1 n,.int .i64 st.e,.int .i64 st.f],.list 50 bW st.x 0 false false]
abbrev cC (rec:List Tok->Int->St->iD) (β:Type):aU β:=cN M5 (N1 rec) β
def jCl (rec:List Tok->Int->St->iD) (L:AV) (s:Int) (r m:Nat) (n:Nat) (st:St):lA:=cK X0 (cC rec _) OJ r 138 pCl kR m (fY 218 [(0,.ptr 0 0),(1,.int .i64 s),(4,.bool false)]) (mCl L n st)
def Hz (rec:List Tok->Int->St->iD) (l:List Tok) (s:Int) (st:St):Bool:=true&&Nat.ble l.length 1000000 && !ltI st.a 0 && !ltI l.length st.a && !ltI st.d 0 && !ltI 50 st.d&&Nat.ble st.x.length 200 && !ltI s 1 && !ltI 7 s&&(rec l s st).isSome
def eG (rec:List Tok->Int->St->iD) (l:List Tok) (s:Int) (st:St):Bool×St:=(rec l s st).getD (false,st)
def vz (b:Bool) (L:AV) (st:St) (n:Nat):lA:=some (.bool b,[L,.int .i64 st.a,.int .i64 st.d,.int .i64 st.e,.int .i64 st.f],n,some (.list 50 bW st.x 0 false false))
def BI (rec:List Tok->Int->St->iD) (L:AV) (l:List Tok) (s:Int) (st:St) (k:St->lA):lA :=
 pick2 (Hz rec l s st&&true) (pick2 (!(eG rec l s st).1) (vz false L (eG rec l s st).2 (eG rec l s st).2.x.length) (k (eG rec l s st).2)) none
def BJ (L:AV) (st:St) (nd:Nd) (f:Int) (k:St->Nat->lA) (n:Nat):lA :=
 pick2 (eqI n 200) (vz false L { st with e:=3,f:=f } n) (pick2 (Nat.ble (st.x.length+1) 1000000) (k { st with x:=st.x++[nd] } (st.x.length+1)) none)
set_option maxRecDepth 100000 in
theorem Xa (rec:List Tok->Int->St->iD) (l:List Tok) (s:Int) (r m n:Nat) (a d e f:Int) (x:List Nd):jCl rec (.bA aH l) s r (m+1) n ⟨a,d,x,e,f⟩ =
 pick2 (ltI a l.length) (Option.rec (motive:=λ_=>lA) none (λt=>pick2 (ltI (Px.bin t).2 s) (vz true (.bA aH l) ⟨a,d,x,e,f⟩ n)
  (BI rec (.bA aH l) l (IntKind.wrap .i64 ((Px.bin t).2+1)) ⟨IntKind.wrap .i64 (a+1),d,x,e,f⟩ λo =>
   BJ (.bA aH l) o ((Px.bin t).1,0,[],IntKind.wrap .i64 (n-1),IntKind.wrap .i64 (o.x.length-1)) a (λo' n'=>jCl rec (.bA aH l) s r m n' o') o.x.length)) (aS l a)) (vz true (.bA aH l) ⟨a,d,x,e,f⟩ n):=by kernel_rfl
def sgT (t:Tok) (s:List UInt8):Bool:=eqI t.1 4&&decide (t.2.2.1=s)
def BK (L:AV) (st:St) (k:St->lA) (n:Nat):lA :=
 pick2 (eqI st.d 50) (vz false L { st with e:=3,f:=st.a } n) (k { st with d:=IntKind.wrap .i64 (st.d+1),a:=IntKind.wrap .i64 (st.a+1) })
def OK (L:AV) (a d e f:Int) (x:List Nd) (s:Int):List bI:=[.val L,.val (.int .i64 a),.val (.int .i64 d),.list 50 bW x,.val (.int .i64 e),.val (.int .i64 f),.val (.int .i64 s)]
def OL (rec:List Tok->Int->St->iD) (l:List Tok) (st:St) (K:St->Nat->lA) (t:Tok):lA :=
 pick2 (tU ay t).isSome (BJ (.bA aH l) { st with a:=IntKind.wrap .i64 (st.a+1) } ((tU ay t).getD Zk) st.a K st.x.length)
  (pick2 (pref t).isSome (BK (.bA aH l) st (λs1=>BI rec (.bA aH l) l 7 s1 λo =>
   pick2 (!eqI ((pref t).getD 0) 0) (BJ (.bA aH l) { o with d:=IntKind.wrap .i64 (o.d-1) } ((pref t).getD 0,0,[],IntKind.wrap .i64 (o.x.length-1),0) st.a K o.x.length) (K { o with d:=IntKind.wrap .i64 (o.d-1) } o.x.length)) st.x.length)
   (pick2 (sgT t [40]) (BK (.bA aH l) st (λs1=>BI rec (.bA aH l) l 1 s1 λo =>
    pick2 (!ltI o.a l.length) (vz false (.bA aH l) { o with e:=4,f:=o.a } o.x.length) (Option.rec (motive:=λ_=>lA) none (λc=>pick2 (!sgT c [41]) (vz false (.bA aH l) { o with e:=4,f:=o.a } o.x.length)
     (K { o with d:=IntKind.wrap .i64 (o.d-1),a:=IntKind.wrap .i64 (o.a+1) } o.x.length)) (aS l o.a))) st.x.length)
    (vz false (.bA aH l) { st with e:=4,f:=st.a } st.x.length)))
set_option maxRecDepth 100000 in
theorem Sl (rec:List Tok->Int->St->iD) (l:List Tok) (s:Int) (r:Nat) (a d e f:Int) (x:List Nd) :
 ag X0 (cC rec BH) OJ r 138 [.ptr 0 0,.int .i64 s] (eH 200 6 (OK (.bA aH l) a d e f x s)) kR =
 pick2 (!ltI a l.length) (vz false (.bA aH l) ⟨a,d,x,4,a⟩ x.length) (Option.rec (motive:=λ_=>lA) none (OL rec l ⟨a,d,x,e,f⟩ (λo n=>jCl rec (.bA aH l) s r r n o)) (aS l a)):=by kernel_rfl
end
end Go.Proofs.YtpaddkkfefgkfaaGreatDoor.ex

namespace Go.Proofs.YtpaddkkfefgkfaaGreatDoor.ex
open Go.Tv Go.Ev Go.Px
set_option maxRecDepth 100000
noncomputable section
theorem getI_at? {α:Type} (l:List α) (i:Int):aS l i=at? l i:=by cases i<;>rfl
structure BD (l:List Tok) (st:St):Prop where
 len:l.length<=1000000
 a0:0<=st.a
 a1:st.a<=(l.length:Int)
 d0:0<=st.d
 d1:st.d<=50
 x:st.x.length<=200
def LL (L:AV):iD->lA
 |some (b,st)=>vz b L st st.x.length
 |none=>none
def y4 (L:AV) (r:iD) (k:St->lA):lA :=
 match r with
 |some (true,o)=>k o
 |some (false,o)=>vz false L o o.x.length
 |none=>none
theorem OM (L:AV) (r:iD) (k:St->iD):LL L (LK r k)=y4 L r λo=>LL L (k o):=by
 unfold LK y4
 split<;>rfl
theorem bind_congr {L:AV} {r:iD} {k k':St->lA} (h:∀o,r=some (true,o)->k o=k' o):y4 L r k=y4 L r k':=by
 unfold y4
 split
 .
  exact h _ rfl
 .
  rfl
 rfl
section
variable {rec:List Tok->Int->St->iD} {l:List Tok}
theorem Fs {L:AV} {s:Int} {st:St} {k:St->lA} (h:BD l st) (h1:1<=s) (h7:s<=7):BI rec L l s st k=y4 L (rec l s st) k:=by
 unfold BI Hz eG y4
 rw[fG h.len,cA (h.a0),cA h.a1,cA h.d0,cA h.d1,fG h.x,cA h1,cA h7]
 cases hr:rec l s st with
 |none=>rfl
 |
  some q =>
  obtain ⟨b,o⟩:=q;cases b<;>rfl
theorem y5 {L:AV} {st:St} {nd:Nd} {f:Int} {k:St->Nat->lA} {k':St->iD} (h:BD l st) (hk:st.x.length≠200->k { st with x:=st.x++[nd] } (st.x.length+1)=LL L (k' { st with x:=st.x++[nd] })):BJ L st nd f k st.x.length=LL L (pU st nd f k'):=by
 unfold BJ pU
 by_cases h2:st.x.length=200
 .
  rw[if_pos h2,Ah (by omega)];rfl
 rw[if_neg h2,wM (by omega),fG (by have:=h.x;omega)]
 exact hk h2
theorem OO {L:AV} {st:St} {k:St->lA} {k':St->iD} (h:BD l st) (ha:st.a<(l.length:Int)) (hk:st.d≠50->k { st with d:=st.d+1,a:=st.a+1 }=LL L (k' { st with d:=st.d+1,a:=st.a+1 })):BK L st k st.x.length=LL L (ov st k'):=by
 unfold BK ov
 have:=h.len
 have:=h.a0
 have:=h.d0
 have:=h.d1
 by_cases h2:st.d=50
 .
  rw[if_pos h2,Ah h2];rfl
 rw[if_neg h2,wM h2,i64_in (n:=st.d+1) (by omega) (by omega),i64_in (n:=st.a+1) (by omega) (by omega)]
 exact hk h2
theorem OP (t:Tok) (s:List UInt8):sgT t s=dO t s:=vw t.1 t.2.1 t.2.2.2 t.2.2.1 s
def Sm (rec:List Tok->Int->St->iD) (l:List Tok):Prop:=∀s st o,1<=s->BD l st->rec l s st=some (true,o)->Grown ay l st o
theorem BD.grown {st o:St} (h:BD l st) (g:Grown ay l st o):BD l o:=by
 obtain ⟨t,_,_,h3,h4,h5,_,_,h8⟩:=g
 exact ⟨h.len,by have:=h.a0;omega,h4,by rw[h5];exact h.d0,by rw[h5];exact h.d1,h8⟩
theorem UK (hf:Sm rec l) (s:Int) (hs:1<=s) (r:Nat):∀(m:Nat) (st:St),BD l st->jCl rec (.bA aH l) s r m st.x.length st=LL (.bA aH l) (eO l (rec l) s m st)
 |0,st,_=>rfl
 |
  m+1,⟨a,d,x,e,f⟩,h=>by
  have hlen:=h.len;have ha0:=h.a0;simp only at ha0;rw[show (⟨a,d,x,e,f⟩:St).x.length=x.length from rfl,Xa,getI_at?];unfold eO;cases dJ:at? l a with
  |
   none =>
   have hge:(l.length:Int)<=a:=by
    unfold at? at dJ;split at dJ
    .
     rename_i n;have:=List.getElem?_eq_none_iff.1 dJ;simp;omega
    omega
   rw[cA hge];rfl
  |
   some t =>
   have hlt:=gM dJ;rw[kG hlt.2];show pick2 (ltI (Px.bin t).2 s) _ _=_;simp only;rw[aX];by_cases hb:(Px.bin t).2<s
   .
    rw[if_pos hb,if_pos hb];rfl
   rw[if_neg hb,if_neg hb];have UL:=OE (t:=t) (by omega)
   have hbd:BD l ⟨a+1,d,x,e,f⟩:=⟨hlen,by show 0<=a+1;omega,by show a+1<=_;omega,h.d0,h.d1,h.x⟩
   rw[i64_in (n:=(Px.bin t).2+1) (by omega) (by omega),i64_in (n:=a+1) (by omega) (by omega),Fs hbd (by omega) (by omega),OM]
   refine bind_congr λo ho=>?_
   have hg:=hbd.grown (hf _ _ _ (by omega) hbd ho)
   have hx:=h.x;simp only at hx;have hox:=hg.x;rw[i64_in (n:=(x.length:Int)-1) (by omega) (by omega),i64_in (n:=(o.x.length:Int)-1) (by omega) (by omega)]
   refine y5 (l:=l) hg λhne=>?_
   have:=UK hf s hs r m { o with x:=o.x++[((Px.bin t).1,0,[],(x.length:Int)-1,(o.x.length:Int)-1)] } ⟨hg.len,hg.a0,hg.a1,hg.d0,hg.d1,by show (o.x++[_]).length<=200;simp;omega⟩
   rw[show ({ o with x:=o.x++[((Px.bin t).1,0,[],(x.length:Int)-1,(o.x.length:Int)-1)] }:St).x.length=o.x.length+1 by simp] at this
   exact this
theorem OQ (hf:Sm rec l) {K:St->Nat->lA} {K':St->iD} (hK:∀o,BD l o->K o o.x.length=LL (.bA aH l) (K' o)) {st:St} (h:BD l st) {t:Tok} (dJ:at? l st.a=some t):OL rec l st K t=LL (.bA aH l) (jW ay l (rec l) st K'):=by
 have hlen:=h.len
 have ha0:=h.a0
 have hlt:=gM dJ
 have hx:=h.x
 have Vv:=h.d0
 have WT:=h.d1
 unfold OL jW
 rw[dJ]
 simp only
 cases ho:tU ay t with
 |
  some n =>
  show BJ _ _ _ _ _ _=_;rw[i64_in (n:=st.a+1) (by omega) (by omega)]
  refine y5 (l:=l) (st:={ st with a:=st.a+1 }) ⟨hlen,by show 0<=st.a+1;omega,by show st.a+1<=_;omega,Vv,WT,hx⟩ λhne=>?_
  have hne:st.x.length≠200:=hne;have:=hK { st with a:=st.a+1,x:=st.x++[n] } ⟨hlen,by show 0<=st.a+1;omega,by show st.a+1<=_;omega,Vv,WT,by show (st.x++[n]).length<=200;simp;omega⟩
  rw[show ({ st with a:=st.a+1,x:=st.x++[n] }:St).x.length=st.x.length+1 by simp] at this
  exact this
 |
  none =>
  show pick2 (pref t).isSome _ _=_;simp only
  have inner:∀(s:Int),1<=s->s<=7->∀(q:St->lA) (q':St->iD),(∀o,BD l o->o.d=st.d+1->q o=LL (.bA aH l) (q' o))->BK (.bA aH l) st (λs1=>BI rec (.bA aH l) l s s1 q) st.x.length=LL (.bA aH l) (ov st λs1=>LK (rec l s s1) q'):=λs h1 h7 q q' hq=>by
   refine OO (l:=l) h hlt.2 λhne=>?_
   have hbd:BD l { st with d:=st.d+1,a:=st.a+1 }:=⟨hlen,by show 0<=st.a+1;omega,by show st.a+1<=_;omega,by show 0<=st.d+1;omega,by show st.d+1<=50;omega,hx⟩
   rw[Fs hbd h1 h7,OM];refine bind_congr λo hr=>?_
   have hg:=hf _ _ _ h1 hbd hr;refine hq o (hbd.grown hg) ?_;obtain ⟨_,_,_,_,_,h5,_⟩:=hg;exact h5
  cases hp:pref t with
  |
   some op =>
   show BK _ _ _ _=_;simp only;refine inner 7 (by decide) (by decide) _ _ λo UL hod=>?_
   have hox:=UL.x;have Ld:BD l { o with d:=o.d-1 }:=⟨hlen,UL.a0,UL.a1,by show 0<=o.d-1;omega,by show o.d-1<=50;omega,hox⟩
   show pick2 (!eqI op 0) _ _=_;rw[aT,i64_in (n:=o.d-1) (by omega) (by omega),i64_in (n:=(o.x.length:Int)-1) (by omega) (by omega)]
   by_cases h0:op=0
   .
    rw[if_pos h0,if_pos h0];exact hK _ Ld
   rw[if_neg h0,if_neg h0];refine y5 (l:=l) (st:={ o with d:=o.d-1 }) Ld λhne=>?_
   have hne:o.x.length≠200:=hne;have:=hK { o with d:=o.d-1,x:=o.x++[(op,0,[],(o.x.length:Int)-1,0)] } ⟨hlen,Ld.a0,Ld.a1,Ld.d0,Ld.d1,by show (o.x++[_]).length<=200;simp;omega⟩
   rw[show ({ o with d:=o.d-1,x:=o.x++[(op,0,[],(o.x.length:Int)-1,0)] }:St).x.length=o.x.length+1 by simp] at this
   exact this
  |
   none =>
   show pick2 (sgT t [40]) _ _=_;rw[OP,pick2_eq];by_cases h40:dO t [40]=true
   .
    rw[if_pos h40];simp only[h40,if_true];refine inner 1 (by decide) (by decide) _ _ λo UL hod=>?_
    have hoa:=UL.a0;have hol:=UL.a1;rw[getI_at?];cases Ft:at? l o.a with
    |
     none =>
     have hge:(l.length:Int)<=o.a:=by
      unfold at? at Ft;split at Ft
      .
       rename_i n hn;have:=List.getElem?_eq_none_iff.1 Ft;rw[hn];simp;omega
      rename_i hn;rw[hn] at hoa;omega
     rw[cA hge];rfl
    |
     some c =>
     have W8:=gM Ft;rw[kG W8.2];show pick2 (!sgT c [41]) _ _=_;simp only;rw[OP,i64_in (n:=o.d-1) (by omega) (by omega),i64_in (n:=o.a+1) (by omega) (by omega)]
     cases dO c [41] with
     |true=>exact hK { o with d:=o.d-1,a:=o.a+1 } ⟨hlen,by show 0<=o.a+1;omega,by show o.a+1<=_;omega,by show 0<=o.d-1;omega,by show o.d-1<=50;omega,UL.x⟩
     |false=>rfl
   rw[if_neg h40];simp only[h40];rfl
end
theorem abB {rec:List Tok->Int->St->iD} {l:List Tok} (hf:Sm rec l) {st:St} (h:BD l st) {s:Int} (hs:1<=s) :
 ag X0 (cC rec BH) OJ (l.length+1) 138 [.ptr 0 0,.int .i64 s] (eH 200 6 (OK (.bA aH l) st.a st.d st.e st.f st.x s)) kR=LL (.bA aH l) (jW ay l (rec l) st (eO l (rec l) s (l.length+1))):=by
 obtain ⟨a,d,x,e,f⟩:=st
 rw[Sl,getI_at?]
 cases dJ:at? l a with
 |
  none =>
  have ha0:=h.a0;simp only at ha0
  have hge:(l.length:Int)<=a:=by
   unfold at? at dJ;split at dJ
   .
    rename_i n;have:=List.getElem?_eq_none_iff.1 dJ;simp;omega
   omega
  rw[cA hge];unfold jW;simp only[dJ];rfl
 |
  some t =>
  have hlt:=gM dJ;rw[kG hlt.2];exact OQ hf (λo ho=>UK hf s hs _ _ o ho) h dJ
set_option maxRecDepth 100000 in
theorem OS (rec:List Tok->Int->St->iD) (s:Int) (r:Nat) (a d e f:Int) (x:List Nd) :
 ag X0 (cC rec BH) OJ r 138 [.ptr 0 0,.int .i64 s] (eH 200 6 (OK .br a d e f x s)) kR=pick2 (!ltI a 0) (vz false .br ⟨a,d,x,4,a⟩ x.length) none:=by kernel_rfl
theorem UM {rec:List Tok->Int->St->iD} {L:AV} (hL:Ak L=true) {a d e f s:Int} {x:List Nd} (hN:dX X0 cI 138 (cCl rec)) {r:Nat} {b:Bool} {st:St}
 (h:ag X0 (cC rec BH) OJ r 138 [.ptr 0 0,.int .i64 s] (eH 200 6 (OK L a d e f x s)) kR=vz b L st st.x.length) :
 ∃vs M1 cs1,Fl X0 cI 138 [.ptr 0 0,.int .i64 s] (eH 200 6 (OK L a d e f x s)) vs M1/\M1.get 0=some (.cells 200 cs1)/\cs1.length=6 /\
  mF M1 [0] (cs1++vs) [.val L,.val (.int .i64 st.a),.val (.int .i64 st.d),.list 50 bW st.x,.val (.int .i64 st.e),.val (.int .i64 st.f),.val (.bool b)]:=by
 obtain ⟨v,M1,h1,h2⟩:=lu (λargs=>lt.aQ rfl args) (bR BC (.cons hN .nil) BH) h
 unfold kR at h1
 split at h1
 .
  rename_i t c0 c1 c2 c3 c4 c5 hg;split at h1
  .
   rename_i id n;rw[pick2_eq] at h1;split at h1
   .
    rename_i ht;obtain rfl:=Nat.eq_of_beq_eq_true ht;simp only[Option.some.injEq,Prod.mk.injEq,List.cons.injEq,and_true] at h1;obtain ⟨rfl,⟨rfl,rfl,rfl,rfl,rfl⟩,rfl,hrow⟩:=h1;refine ⟨[.bool b],M1,_,h2 [.bool b] rfl,hg,rfl,rfl,hL,rfl,rfl,rfl,rfl,.inl ⟨id,0,false,rfl,hrow,?_,rfl,rfl,rfl,rfl,rfl,rfl,trivial⟩⟩;intro hm;have:id=0:=by simpa using hm
    subst this;rw[hg] at hrow;cases hrow
   cases h1
  cases h1
 cases h1
theorem HA (k:Nat) (l:List Tok):Sm (λl=>bf ay l k) l:=λs st o h1 hb hr=>eP l k s st o h1 hb.x hb.a1 hr
theorem Dh:∀k:Nat,dX X0 cI 138 (cCl λl=>bf ay l k)
 |
  0=>by
  intro ins outs rs hg;exfalso;have hg:gCl (λl=>bf ay l 0) ins=some (true,outs,rs):=hg
  unfold gCl at hg;split at hg
  .
   split at hg
   .
    simp[bf] at hg
   cases hg
  cases hg
 |
  k+1=>by
  intro ins outs rs hg;have hg:gCl (λl=>bf ay l (k+1)) ins=some (true,outs,rs):=hg
  unfold gCl at hg;split at hg
  case h_2=>cases hg
  rename_i L a d t0 t x e f s _;split at hg
  case h_2=>cases hg
  rename_i l x' hl hx;obtain ⟨rfl,hx2⟩:=bh hx;have hx2:x=x':=hx2;subst hx2;simp only[Option.some.injEq,Prod.mk.injEq,Bool.and_eq_true,Bool.not_eq_true'] at hg;obtain ⟨⟨⟨⟨⟨⟨⟨⟨⟨⟨g0,g1⟩,g2⟩,g3⟩,g4⟩,g5⟩,g6⟩,g7⟩,g8⟩,g9⟩,rfl,rfl⟩:=hg;obtain rfl:=Nat.eq_of_beq_eq_true g0;have Am:∀{p q:Int},ltI p q=false->q<=p:=λ{p q} h=>by rw[ltI_spec] at h;simpa using h
  have hbd:BD l ⟨a,d,x,e,f⟩:=⟨Nat.le_of_ble_eq_true g1,Am g2,Am g3,Am g4,Am g5,Nat.le_of_ble_eq_true g6⟩;obtain ⟨⟨b,st⟩,hr⟩:=Option.isSome_iff_exists.1 g9;rw[hr];have hc:bf ay l (k+1) s ⟨a,d,x,e,f⟩=jW ay l (bf ay l k) ⟨a,d,x,e,f⟩ (eO l (bf ay l k) s (l.length+1)):=rfl;cases L with
  |
   bA e' l0 =>
   obtain ⟨rfl,sR⟩:=bh hl;have sR:l0=l:=sR;subst sR;have hrun:=abB (rec:=λl=>bf ay l k) (HA k l0) hbd (Am g7)
   rw[<-hc,hr] at hrun;exact λ_ _=>UM rfl (Dh k) hrun
  |
   br =>
   have hl:some []=some l:=hl;cases hl;have ha:a=0:=by have:=hbd.a0;have:=hbd.a1;simp only[List.length_nil] at *;omega
   subst ha;have hrun:=OS (λl=>bf ay l k) s 5 0 d e f x
   have Iz:(false,(⟨0,d,x,4,0⟩:St))=(b,st):=Option.some.inj (hc.symm.trans hr);cases Iz;exact λ_ _=>UM rfl (Dh k) hrun
  |_=>cases hl
end
end Go.Proofs.YtpaddkkfefgkfaaGreatDoor.ex

namespace Go.Proofs.YtpaddkkfefgkfaaGreatDoor.ex
open Go.Tv Go.Ev Go.Px
set_option maxRecDepth 100000
noncomputable section
def pQ (v:AV) (H:aa):Option (AV×Option Row) :=
 match v with
 |.bZ (.own i _::_)=>some (v,H.get i)
 |.own i _=>some (v,H.get i)
 |_=>some (v,none)
theorem y8 {v:AV} {H:aa} {r:AV×Option Row} (h:pQ v H=some r):v=r.1:=by
 unfold pQ at h
 split at h<;>(cases h;rfl)
def ak (l:List Tok) (a:Int):List Nd×Int×Int×Int:=(iO ay l a).getD ([],0,0,0)
def y9 (e f:Int):Option (AV×Option Row):=some (.bZ [.br,.int .i64 0,.agg [.int .i64 e,.int .i64 f]],none)
def za (x:List Nd) (n:Nat) (a:Int):Option (AV×Option Row):=some (.bZ [.own 2 n,.int .i64 a,.agg [.int .i64 0,.int .i64 0]],some (.list 50 bW x 0 false false))
abbrev cM (M:List kH) (rec:List Tok->Int->St->iD) (β:Type):aU β:=cN M (N1 rec) β
set_option maxRecDepth 100000 in
theorem Sn (rec:List Tok->Int->St->iD) (l:List Tok) (a:Int) (r:Nat):ag X0 (cM M5 rec _) bK r 93 [.bA aH l,.int .i64 a] aa.empty pQ =
 pick2 (ltI a 0) (y9 2 0) (pick2 (ltI l.length a) (y9 2 0) (pick2 (Hz rec l 1 ⟨a,0,[],0,0⟩&&true) (pick2 (!(eG rec l 1 ⟨a,0,[],0,0⟩).1) (y9 (eG rec l 1 ⟨a,0,[],0,0⟩).2.e (eG rec l 1 ⟨a,0,[],0,0⟩).2.f)
  (za (eG rec l 1 ⟨a,0,[],0,0⟩).2.x (eG rec l 1 ⟨a,0,[],0,0⟩).2.x.length (eG rec l 1 ⟨a,0,[],0,0⟩).2.a)) none)):=by kernel_rfl
def gPs (args:List AV):Option (Bool×List aZ) :=
 match args with
 |
  [L,.int .i64 a]=>match Al aH L with
  |some l=>some (Nat.ble l.length 1000000,[.list 50 bW (ak l a).1,.val (.int .i64 (ak l a).2.1),.val (.agg [.int .i64 (ak l a).2.2.1,.int .i64 (ak l a).2.2.2])])
  |none=>none
 |_=>none
theorem jr {e:Ty} {a:AV} {l:List e.den} (h:Al e a=some l):a = .bA e l\/(a = .br/\l=[]):=by
 unfold Al at h
 split at h
 .
  obtain ⟨he,h2⟩:=bh h;subst he;have h2:_=l:=h2;subst h2;exact .inl rfl
 .
  cases h;exact .inr ⟨rfl,rfl⟩
 cases h
theorem OW (rec:List Tok->Int->St->iD) (a:Int) (r:Nat):ag X0 (cM M5 rec _) bK r 93 [.br,.int .i64 a] aa.empty pQ =
 pick2 (ltI a 0) (y9 2 0) (pick2 (ltI 0 a) (y9 2 0) (pick2 (Hz rec [] 1 ⟨a,0,[],0,0⟩&&true) (pick2 (!(eG rec [] 1 ⟨a,0,[],0,0⟩).1) (y9 (eG rec [] 1 ⟨a,0,[],0,0⟩).2.e (eG rec [] 1 ⟨a,0,[],0,0⟩).2.f)
  (za (eG rec [] 1 ⟨a,0,[],0,0⟩).2.x (eG rec [] 1 ⟨a,0,[],0,0⟩).2.x.length (eG rec [] 1 ⟨a,0,[],0,0⟩).2.a)) none)):=by kernel_rfl
theorem Xb:aI X0 cI 93 gPs:=by
 intro args rs hg
 unfold gPs at hg
 split at hg
 case h_2=>cases hg
 rename_i L a
 split at hg
 case h_2=>cases hg
 rename_i l hl
 simp only[Option.some.injEq,Prod.mk.injEq] at hg
 obtain ⟨hb,rfl⟩:=hg
 have hb:=Nat.le_of_ble_eq_true hb
 have hrun:ag X0 (cM M5 (λl0=>bf ay l0 (l.length+1)) _) bK 5 93 [L,.int .i64 a] aa.empty pQ =
  if (ak l a).2.2.1=0 then za (ak l a).1 (ak l a).1.length (ak l a).2.1 else y9 (ak l a).2.2.1 (ak l a).2.2.2:=by
  have e:ag X0 (cM M5 (λl0=>bf ay l0 (l.length+1)) _) bK 5 93 [L,.int .i64 a] aa.empty pQ =
   pick2 (ltI a 0) (y9 2 0) (pick2 (ltI l.length a) (y9 2 0) (pick2 (Hz (λl0=>bf ay l0 (l.length+1)) l 1 ⟨a,0,[],0,0⟩&&true) (pick2 (!(eG (λl0=>bf ay l0 (l.length+1)) l 1 ⟨a,0,[],0,0⟩).1) (y9 (eG (λl0=>bf ay l0 (l.length+1)) l 1 ⟨a,0,[],0,0⟩).2.e (eG (λl0=>bf ay l0 (l.length+1)) l 1 ⟨a,0,[],0,0⟩).2.f)
    (za (eG (λl0=>bf ay l0 (l.length+1)) l 1 ⟨a,0,[],0,0⟩).2.x (eG (λl0=>bf ay l0 (l.length+1)) l 1 ⟨a,0,[],0,0⟩).2.x.length (eG (λl0=>bf ay l0 (l.length+1)) l 1 ⟨a,0,[],0,0⟩).2.a)) none)):=by
   rcases jr hl with rfl|⟨rfl,rfl⟩
   .
    exact Sn _ l a 5
   exact OW _ a 5
  rw[e,aX,aX];have key:∀r,iO ay l a=some r->ak l a=r:=λr h=>by unfold ak;rw[h];rfl
  by_cases h1:a<0
  .
   rw[if_pos h1,key ([],0,2,0) (by unfold iO;rw[if_pos (Or.inl h1)])];rfl
  rw[if_neg h1];by_cases h2:(l.length:Int)<a
  .
   rw[if_pos h2,key ([],0,2,0) (by unfold iO;rw[if_pos (Or.inr h2)])];rfl
  rw[if_neg h2];have hno:¬(a<0\/(l.length:Int)<a):=by omega
  have hbd:BD l ⟨a,0,[],0,0⟩:=⟨hb,by show 0<=a;omega,by show a<=_;omega,Int.le_refl 0,by show (0:Int)<=50;decide,by simp⟩
  obtain ⟨⟨b,st⟩,hr⟩:=lz (nm:=ay) l (l.length+1) 1 ⟨a,0,[],0,0⟩ (by decide) (by simp) hbd.a0 hbd.a1 (by show _-a<_;omega)
  unfold Hz eG;rw[fG hb,cA hbd.a0,cA hbd.a1,cA hbd.d0,cA hbd.d1,fG hbd.x];simp only[hr];cases b with
  |true=>rw[key (st.x,st.a,0,0) (by unfold iO;rw[if_neg hno,hr])];rfl
  |
   false =>
   have hne:=xq l _ _ _ st hr;rw[key ([],0,st.e,st.f) (by unfold iO;rw[if_neg hno,hr])]
   simp only;rw[if_neg hne];rfl
 obtain ⟨r,hr⟩:=sr (nm:=ay) l a
 by_cases h0:(ak l a).2.2.1=0
 .
  rw[if_pos h0] at hrun;unfold za at hrun;obtain ⟨v,M1,h1,h2⟩:=lu (λargs=>lt.aQ rfl args) (bR BC (.cons (Dh (l.length+1)) .nil) (AV×Option Row)) hrun
  have hv:=y8 h1;subst hv;refine ⟨_,M1,h2 [.own 2 (ak l a).1.length,.int .i64 (ak l a).2.1,.agg [.int .i64 0,.int .i64 0]] rfl,rfl,.inl ⟨2,0,false,rfl,?_,by simp,rfl,rfl,?_,rfl,trivial⟩⟩
  .
   exact (Prod.mk.inj (Option.some.inj h1)).2
  have hz:(ak l a).2.2.2=0:=by
   unfold ak at h0 ⊢;rw[hr] at h0 ⊢;unfold iO at hr;split at hr
   .
    cases hr;exact absurd h0 (by decide)
   split at hr
   .
    cases hr;rfl
   .
    rename_i st hc;cases hr;exact absurd h0 (xq l _ _ _ st hc)
   cases hr
  rw[h0,hz]
 rw[if_neg h0] at hrun
 unfold y9 at hrun
 obtain ⟨v,M1,h1,h2⟩:=lu (λargs=>lt.aQ rfl args) (bR BC (.cons (Dh (l.length+1)) .nil) (AV×Option Row)) hrun
 have hv:=y8 h1
 subst hv
 have hz:(ak l a).1=[]/\(ak l a).2.1=0:=by
  unfold ak at h0 ⊢;rw[hr] at h0 ⊢;exact (tW (nm:=ay) (l:=l) (a:=a) hr).1 h0
 refine ⟨_,M1,h2 [.br,.int .i64 0,.agg [.int .i64 (ak l a).2.2.1,.int .i64 (ak l a).2.2.2]] rfl,rfl,.inr ⟨rfl,hz.1,?_,rfl,rfl,rfl,trivial⟩⟩
 rw[hz.2]
def M6:List kH:=(93,[some aH,none],gPs)::M5
theorem pW:cg X0 cI M6:=.cons Xb BC
end
end Go.Proofs.YtpaddkkfefgkfaaGreatDoor.ex
