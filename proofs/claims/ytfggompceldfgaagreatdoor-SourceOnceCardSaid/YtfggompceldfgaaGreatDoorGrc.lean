/- Expressions: the setting of the laws on lines. Expressions: what a token alone is. Expressions: the contract of climb, as it calls itself. Expressions: the contract of climb. Expressions: the contract of Parse. -/
import Derived.Test.YtfggompceldfgaaGreatDoorGrb
import Derived.Test.YtfggompceldfgaaGreatDoorLyh
import Derived.Test.YtfggompceldfgaaGreatDoorLyg
import Derived.Test.YtfggompceldfgaaGreatDoorGxa
set_option linter.unusedVariables false
set_option linter.unusedSimpArgs false

namespace Go.Proofs.YtfggompceldfgaaGreatDoor.ex
open Go.Tv Go.Ev
noncomputable section
abbrev X0:gU:=lt.Xg lt.BB
abbrev gW:=dO X0 lt.kn
abbrev ia:eD:=lt.ia
def cN (M:List xX)(N:List rL)(β:Type):cI β:=V3 X0 (Tw M) (ZS N) lt.inl 400 β 40
theorem kA {M:List xX}{N:List rL}(hM:jx X0 gW M)(hN:js X0 gW N)(β:Type):cT X0 gW (cN M N β):=V4 hM hN (λf h args=>lt.bS h args) 400 40 β
theorem n0:js X0 gW []:=.nil
abbrev bX:List UInt8->Bool:=lt.bX
def M3:List xX:=(82,[none],lt.Oi)::(29,[none],lt.aeS)::(169,[none],lt.gNm)::lt.R1
theorem Qj:jx X0 gW M3:=.cons (lt.aeT lt.BB) (.cons lt.ajZ (.cons (lt.aj4 lt.BB) (lt.acq lt.BB)))
end
end Go.Proofs.YtfggompceldfgaaGreatDoor.ex
namespace Go.Proofs.YtfggompceldfgaaGreatDoor.ex
open Go.Tv Go.Ev Go.Px
set_option maxRecDepth 100000
noncomputable section
def V6 (n:Nd):AV:=.agg [.int .i64 n.1,.int .i64 n.2.1,.str n.2.2.1,.int .i64 n.2.2.2.1,.int .i64 n.2.2.2.2]
def zNd:Nd:=(0,0,[],0,0)
abbrev dJ:Ty:=.pair (.int .i64) (.pair (.int .i64) (.pair .str (.int .i64)))
abbrev fL:Ty:=.pair (.int .i64) (.pair (.int .i64) (.pair .str (.pair (.int .i64) (.int .i64))))
def y8 (f:Tok->List fN)(args:List AV):Option (Bool×List fN) :=
 match args with
 |[.agg [.int .i64 k,.int .i64 n,.str s,.int .i64 a]]=>some (true,f (k,n,s,a))
 |_=>none
def ae0 (args:List AV):Option (Bool×List fN) :=
 match args with
 |[.agg [.int .i64 k,.int .i64 n,.str s,.int .i64 a],.str t]=>some (true,[.val (.bool (bI k 4&&decide (s=t)))])
 |_=>none
theorem ZV:dh X0 gW 158 ae0 :=
 dA (λargs=>lt.bS rfl args) (kA Qj n0) λargs rs hg=>by
  unfold ae0 at hg;split at hg
  .rename_i k n s a t;simp only[aq,ax]at hg;obtain⟨h1,rfl⟩:=hg;refine⟨[.bool (bI k 4&&decide (s=t))],ia,5,?_,rfl,rfl⟩;have h:aT X0 (cN M3 [] AV) ia 5 158 [.agg [.int .i64 k,.int .i64 n,.str s,.int .i64 a],.str t] aH.empty (λv _=>some v)=ah (bI k 4) (some (.bool (decide (s=t)))) (some (.bool false)):=by kernel_rfl
   rw[h];cases bI k 4<;>rfl
  cases hg
def M4:List xX:=(158,[none,none],ae0)::M3
theorem Qs:jx X0 gW M4:=.cons ZV Qj
theorem BI (k n a:Int)(s t:List UInt8):(bI k 4&&decide (s=t))=pJ (k,n,s,a) t:=by
 unfold pJ;have e:(k==4)=decide (k=4):=by rw[bO];simp
 rw[eT,e]
def acv (t:Tok):List fN:=[.val (V6 ((BG bX t).getD zNd)),.val (.bool (BG bX t).isSome)]
theorem V7:dh X0 gW 154 (y8 acv) :=
 dA (λargs=>lt.bS rfl args) (kA Qs n0) λargs rs hg=>by
  unfold y8 at hg;split at hg
  .rename_i k n s a;simp only[aq,ax]at hg;obtain⟨h1,rfl⟩:=hg;refine⟨[V6 ((BG bX (k,n,s,a)).getD zNd),.bool (BG bX (k,n,s,a)).isSome],ia,5,?_,rfl,rfl⟩;have h:aT X0 (cN M4 [] AV) ia 5 154 [.agg [.int .i64 k,.int .i64 n,.str s,.int .i64 a]] aH.empty (λv _=>some v) =
    ah (bI k 2) (some (.fH [V6 (1,n,[],0,0),.bool true])) ((λrest=>ah (bI k 1) (ah (bX s) (some (.fH [V6 (2,0,s,0,0),.bool true])) rest) rest)
     (ah (bI k 4&&decide (s=[36])) (some (.fH [V6 (3,0,[],0,0),.bool true])) (ah (bI k 4&&decide (s=[36,36])) (some (.fH [V6 (4,0,[],0,0),.bool true])) (some (.fH [V6 zNd,.bool false]))))):=by kernel_rfl
   rw[h,BI k n a,BI k n a];unfold BG;simp only[ck];simp only[av];have rest:(if pJ (k,n,s,a) [36]=true then some (AV.fH [V6 (3,0,[],0,0),AV.bool true]) else if pJ (k,n,s,a) [36,36]=true then some (AV.fH [V6 (4,0,[],0,0),AV.bool true]) else some (AV.fH [V6 zNd,AV.bool false])) =
    some (rJ [V6 ((if pJ (k,n,s,a) [36]=true then some (3,0,[],0,0) else if pJ (k,n,s,a) [36,36]=true then some (4,0,[],0,0) else none).getD zNd),AV.bool (if pJ (k,n,s,a) [36]=true then some ((3,0,[],0,0):Nd) else if pJ (k,n,s,a) [36,36]=true then some (4,0,[],0,0) else none).isSome]):=by
    by_cases c4:pJ (k,n,s,a) [36]=true
    .simp only[ag c4];rfl
    simp only[aa c4];by_cases c5:pJ (k,n,s,a) [36,36]=true
    .simp only[ag c5];rfl
    simp only[aa c5];rfl
   by_cases c1:k=2
   .simp only[ag c1];rfl
   simp only[aa c1];by_cases c2:k=1
   .by_cases c3:bX s=true
    .simp only[ag c2,ag c3,ag (And.intro c2 c3)];rfl
    simp only[ag c2,aa c3,aa (λh:k=1/\bX s=true=>c3 h.2)];exact rest
   simp only[aa c2,aa (λh:k=1/\bX s=true=>c2 h.1)];exact rest
  cases hg
def acw (t:Tok):List fN:=[.val (.int .i64 ((pref t).getD 0)),.val (.bool (pref t).isSome)]
theorem V8:dh X0 gW 155 (y8 acw) :=
 dA (λargs=>lt.bS rfl args) (kA Qs n0) λargs rs hg=>by
  unfold y8 at hg;split at hg
  .rename_i k n s a;simp only[aq,ax]at hg;obtain⟨h1,rfl⟩:=hg;refine⟨[.int .i64 ((pref (k,n,s,a)).getD 0),.bool (pref (k,n,s,a)).isSome],ia,5,?_,rfl,rfl⟩;have h:aT X0 (cN M4 [] AV) ia 5 155 [.agg [.int .i64 k,.int .i64 n,.str s,.int .i64 a]] aH.empty (λv _=>some v) =
    ah (bI k 4&&decide (s=[45])) (some (.fH [.int .i64 5,.bool true])) (ah (bI k 4&&decide (s=[126])) (some (.fH [.int .i64 6,.bool true])) (ah (bI k 4&&decide (s=[43])) (some (.fH [.int .i64 0,.bool true])) (some (.fH [.int .i64 0,.bool false])))):=by kernel_rfl
   rw[h,BI k n a,BI k n a,BI k n a];unfold pref;simp only[av];by_cases c1:pJ (k,n,s,a) [45]=true
   .simp only[ag c1];rfl
   simp only[aa c1];by_cases c2:pJ (k,n,s,a) [126]=true
   .simp only[ag c2];rfl
   simp only[aa c2];by_cases c3:pJ (k,n,s,a) [43]=true
   .simp only[ag c3];rfl
   simp only[aa c3];rfl
  cases hg
def aj9 (t:Tok):List fN:=[.val (.int .i64 (Px.bin t).1),.val (.int .i64 (Px.bin t).2)]
theorem ZW:dh X0 gW 159 (y8 aj9) :=
 dA (λargs=>lt.bS rfl args) (kA Qs n0) λargs rs hg=>by
  unfold y8 at hg;split at hg
  .rename_i k n s a;simp only[aq,ax]at hg;obtain⟨h1,rfl⟩:=hg;refine⟨[.int .i64 (Px.bin (k,n,s,a)).1,.int .i64 (Px.bin (k,n,s,a)).2],ia,5,?_,rfl,rfl⟩;have h:aT X0 (cN M4 [] AV) ia 5 159 [.agg [.int .i64 k,.int .i64 n,.str s,.int .i64 a]] aH.empty (λv _=>some v) =
    ah (!bI k 4) (some (.fH [.int .i64 0,.int .i64 0])) (List.rec (motive:=λ_=>Option AV) (some (.fH [.int .i64 0,.int .i64 0])) (λq _ r=>ah (decide (s=q.1)) (some (.fH [.int .i64 q.2.1,.int .i64 q.2.2])) r) aj8):=by kernel_rfl
   rw[h,cX];have key:∀m:List (List UInt8×Int×Int),(List.rec (motive:=λ_=>Option AV) (some (.fH [.int .i64 0,.int .i64 0])) (λq _ r=>ah (decide (s=q.1)) (some (.fH [.int .i64 q.2.1,.int .i64 q.2.2])) r) m:Option AV)=some (.fH [.int .i64 (kG s m).1,.int .i64 (kG s m).2]):=by
    intro m;induction m with
    |nil=>rfl
    |cons q m ih =>
     show ah (decide (s=q.1)) _ (List.rec (motive:=λ_=>Option AV) _ _ m)=_;rw[ih,kG];by_cases hq:s=q.1
     .rw[bf hq,ag hq]
     rw[aU hq,aa hq]
   rw[key];unfold Px.bin;by_cases c1:k=4
   .simp only[ag c1];rfl
   simp only[aa c1];rfl
  cases hg
def M5:List xX:=(154,[none],y8 acv)::(155,[none],y8 acw)::(159,[none],y8 aj9)::M4
theorem GI:jx X0 gW M5:=.cons V7 (.cons V8 (.cons ZW Qs))
def I7 (e:Ty):AV->Option (List e.den)
 |.dW e' l=>iq e' e l
 |.dg=>some []
 |_=>none
def gCl (rec:List Tok->Int->St->mO)(ins:List fK):Option (Bool×List fK×List fK) :=
 match ins with
 |[.val L,.val (.int .i64 a),.val (.int .i64 d),.list t0 t x,.val (.int .i64 e),.val (.int .i64 f),.val (.int .i64 s)] =>
  match I7 dJ L,iq t fL x with
  |some l,some x=>some (Nat.beq t0 89&&Nat.ble l.length 2000000 && !bB a 0 && !bB l.length a && !bB d 0 && !bB 50 d&&Nat.ble x.length 200 && !bB s 1 && !bB 7 s&&(rec l s ⟨a,d,x,e,f⟩).isSome,
   [.val L,.val (.int .i64 ((rec l s ⟨a,d,x,e,f⟩).getD (false,⟨a,d,x,e,f⟩)).2.a),.val (.int .i64 ((rec l s ⟨a,d,x,e,f⟩).getD (false,⟨a,d,x,e,f⟩)).2.d),.list 89 fL ((rec l s ⟨a,d,x,e,f⟩).getD (false,⟨a,d,x,e,f⟩)).2.x,
    .val (.int .i64 ((rec l s ⟨a,d,x,e,f⟩).getD (false,⟨a,d,x,e,f⟩)).2.e),.val (.int .i64 ((rec l s ⟨a,d,x,e,f⟩).getD (false,⟨a,d,x,e,f⟩)).2.f)],
   [.val (.bool ((rec l s ⟨a,d,x,e,f⟩).getD (false,⟨a,d,x,e,f⟩)).1)])
  |_,_=>none
 |_=>none
def cCl (rec:List Tok->Int->St->mO):FO:=⟨some (173,[none,none,none,some (89,fL),none,none]),[none],gCl rec⟩
def N1 (rec:List Tok->Int->St->mO):List rL:=[(125,cCl rec)]
abbrev GN:=AV×List AV×Nat×Option Row
abbrev sI:=Option GN
def kR (v:AV)(H:aH):sI :=
 match H.get 0 with
 |some (.cells t [c0,c1,c2,c3,c4,c5])=>match c3 with
  |.own id n=>ah (Nat.beq t 173) (some (v,[c0,c1,c2,c4,c5],n,H.get id)) none
  |_=>none
 |_=>none
def pCl:List Bool:=[true,true,true,true,true,true,true,false,false]
def V9:eD:=⟨gZ [0,1,4] pCl,.none,[]⟩
def ZX (l:List Row):aH:=l.foldl (λM r=>M.push r) ⟨0,0,1,.e⟩
def mCl (L:AV)(n:Nat)(st:St):aH:=ZX [.cells 173 [L,.int .i64 st.a,.int .i64 st.d,.own 1 n,.int .i64 st.e,.int .i64 st.f],.list 89 fL st.x 0 false false]
abbrev cC (rec:List Tok->Int->St->mO)(β:Type):cI β:=cN M5 (N1 rec) β
def jCl (rec:List Tok->Int->St->mO)(L:AV)(s:Int)(r m:Nat)(n:Nat)(st:St):sI:=jf X0 (cC rec _) V9 r 125 pCl kR m (lz 218 [(0,.ptr 0 0),(1,.int .i64 s),(4,.bool false)]) (mCl L n st)
def Om (rec:List Tok->Int->St->mO)(l:List Tok)(s:Int)(st:St):Bool:=true&&Nat.ble l.length 2000000 && !bB st.a 0 && !bB l.length st.a && !bB st.d 0 && !bB 50 st.d&&Nat.ble st.x.length 200 && !bB s 1 && !bB 7 s&&(rec l s st).isSome
def eF (rec:List Tok->Int->St->mO)(l:List Tok)(s:Int)(st:St):Bool×St:=(rec l s st).getD (false,st)
def BJ (b:Bool)(L:AV)(st:St)(n:Nat):sI:=some (.bool b,[L,.int .i64 st.a,.int .i64 st.d,.int .i64 st.e,.int .i64 st.f],n,some (.list 89 fL st.x 0 false false))
def GP (rec:List Tok->Int->St->mO)(L:AV)(l:List Tok)(s:Int)(st:St)(k:St->sI):sI :=
 ah (Om rec l s st&&true) (ah (!(eF rec l s st).1) (BJ false L (eF rec l s st).2 (eF rec l s st).2.x.length) (k (eF rec l s st).2)) none
def GS (L:AV)(st:St)(nd:Nd)(f:Int)(k:St->Nat->sI)(n:Nat):sI :=
 ah (bI n 200) (BJ false L { st with e:=3,f:=f } n) (ah (Nat.ble (st.x.length+1) 2000000) (k { st with x:=st.x++[nd] } (st.x.length+1)) none)
set_option maxRecDepth 100000 in
theorem ae1 (rec:List Tok->Int->St->mO)(l:List Tok)(s:Int)(r m n:Nat)(a d e f:Int)(x:List Nd):jCl rec (.dW dJ l) s r (m+1) n ⟨a,d,x,e,f⟩ =
 ah (bB a l.length) (Option.rec (motive:=λ_=>sI) none (λt=>ah (bB (Px.bin t).2 s) (BJ true (.dW dJ l) ⟨a,d,x,e,f⟩ n)
  (GP rec (.dW dJ l) l (IntKind.wrap .i64 ((Px.bin t).2+1)) ⟨IntKind.wrap .i64 (a+1),d,x,e,f⟩ λo =>
   GS (.dW dJ l) o ((Px.bin t).1,0,[],IntKind.wrap .i64 (n-1),IntKind.wrap .i64 (o.x.length-1)) a (λo' n'=>jCl rec (.dW dJ l) s r m n' o') o.x.length)) (dX l a)) (BJ true (.dW dJ l) ⟨a,d,x,e,f⟩ n):=by kernel_rfl
def sgT (t:Tok)(s:List UInt8):Bool:=bI t.1 4&&decide (t.2.2.1=s)
def GU (L:AV)(st:St)(k:St->sI)(n:Nat):sI :=
 ah (bI st.d 50) (BJ false L { st with e:=3,f:=st.a } n) (k { st with d:=IntKind.wrap .i64 (st.d+1),a:=IntKind.wrap .i64 (st.a+1) })
def Wa (L:AV)(a d e f:Int)(x:List Nd)(s:Int):List fK:=[.val L,.val (.int .i64 a),.val (.int .i64 d),.list 89 fL x,.val (.int .i64 e),.val (.int .i64 f),.val (.int .i64 s)]
def Wb (rec:List Tok->Int->St->mO)(l:List Tok)(st:St)(K:St->Nat->sI)(t:Tok):sI :=
 ah (BG bX t).isSome (GS (.dW dJ l) { st with a:=IntKind.wrap .i64 (st.a+1) } ((BG bX t).getD zNd) st.a K st.x.length)
  (ah (pref t).isSome (GU (.dW dJ l) st (λs1=>GP rec (.dW dJ l) l 7 s1 λo =>
   ah (!bI ((pref t).getD 0) 0) (GS (.dW dJ l) { o with d:=IntKind.wrap .i64 (o.d-1) } ((pref t).getD 0,0,[],IntKind.wrap .i64 (o.x.length-1),0) st.a K o.x.length) (K { o with d:=IntKind.wrap .i64 (o.d-1) } o.x.length)) st.x.length)
   (ah (sgT t [40]) (GU (.dW dJ l) st (λs1=>GP rec (.dW dJ l) l 1 s1 λo =>
    ah (!bB o.a l.length) (BJ false (.dW dJ l) { o with e:=4,f:=o.a } o.x.length) (Option.rec (motive:=λ_=>sI) none (λc=>ah (!sgT c [41]) (BJ false (.dW dJ l) { o with e:=4,f:=o.a } o.x.length)
     (K { o with d:=IntKind.wrap .i64 (o.d-1),a:=IntKind.wrap .i64 (o.a+1) } o.x.length)) (dX l o.a))) st.x.length)
    (BJ false (.dW dJ l) { st with e:=4,f:=st.a } st.x.length)))
set_option maxRecDepth 100000 in
theorem ZY (rec:List Tok->Int->St->mO)(l:List Tok)(s:Int)(r:Nat)(a d e f:Int)(x:List Nd) :
 aT X0 (cC rec GN) V9 r 125 [.ptr 0 0,.int .i64 s] (jg 173 6 (Wa (.dW dJ l) a d e f x s)) kR =
 ah (!bB a l.length) (BJ false (.dW dJ l) ⟨a,d,x,4,a⟩ x.length) (Option.rec (motive:=λ_=>sI) none (Wb rec l ⟨a,d,x,e,f⟩ (λo n=>jCl rec (.dW dJ l) s r r n o)) (dX l a)):=by kernel_rfl
theorem getI_at? {α:Type}(l:List α)(i:Int):dX l i=at? l i:=by cases i<;>rfl
structure BD (l:List Tok)(st:St):Prop where
 len:l.length<=2000000
 a0:0<=st.a
 a1:st.a<=(l.length:Int)
 d0:0<=st.d
 d1:st.d<=50
 x:st.x.length<=200
def Tx (L:AV):mO->sI
 |some (b,st)=>BJ b L st st.x.length
 |none=>none
def EK (L:AV)(r:mO)(k:St->sI):sI :=
 match r with
 |some (true,o)=>k o
 |some (false,o)=>BJ false L o o.x.length
 |none=>none
theorem Wc (L:AV)(r:mO)(k:St->mO):Tx L (Ol r k)=EK L r λo=>Tx L (k o):=by
 unfold Ol EK;split<;>rfl
theorem bind_congr {L:AV}{r:mO}{k k':St->sI}(h:∀o,r=some (true,o)->k o=k' o):EK L r k=EK L r k':=by
 unfold EK;split
 .exact h _ rfl
 .rfl
 rfl
section
variable {rec:List Tok->Int->St->mO} {l:List Tok}
theorem LK {L:AV}{s:Int}{st:St}{k:St->sI}(h:BD l st)(h1:1<=s)(h7:s<=7):GP rec L l s st k=EK L (rec l s st) k:=by
 unfold GP Om eF EK;rw[ee h.len,fG (h.a0),fG h.a1,fG h.d0,fG h.d1,ee h.x,fG h1,fG h7];cases hr:rec l s st with
 |none=>rfl
 |some q =>
  obtain⟨b,o⟩:=q;cases b<;>rfl
theorem EL {L:AV}{st:St}{nd:Nd}{f:Int}{k:St->Nat->sI}{k':St->mO}(h:BD l st) (hk:st.x.length≠200->k { st with x:=st.x++[nd] } (st.x.length+1)=Tx L (k' { st with x:=st.x++[nd] })):GS L st nd f k st.x.length=Tx L (sF st nd f k'):=by
 unfold GS sF;by_cases h2:st.x.length=200
 .rw[ag h2,FL (by omega)];rfl
 rw[aa h2,xI (by omega),ee (by have:=h.x;omega)];exact hk h2
theorem We {L:AV}{st:St}{k:St->sI}{k':St->mO}(h:BD l st)(ha:st.a<(l.length:Int)) (hk:st.d≠50->k { st with d:=st.d+1,a:=st.a+1 }=Tx L (k' { st with d:=st.d+1,a:=st.a+1 })):GU L st k st.x.length=Tx L (sG st k'):=by
 unfold GU sG;have:=h.len;have:=h.a0;have:=h.d0;have:=h.d1;by_cases h2:st.d=50
 .rw[ag h2,FL h2];rfl
 rw[aa h2,xI h2,i64_in (n:=st.d+1) (by omega) (by omega),i64_in (n:=st.a+1) (by omega) (by omega)];exact hk h2
theorem Wf (t:Tok)(s:List UInt8):sgT t s=pJ t s:=BI t.1 t.2.1 t.2.2.2 t.2.2.1 s
def ZZ (rec:List Tok->Int->St->mO)(l:List Tok):Prop:=∀s st o,1<=s->BD l st->rec l s st=some (true,o)->Grown bX l st o
theorem BD.grown {st o:St}(h:BD l st)(g:Grown bX l st o):BD l o:=by
 obtain⟨t,_,_,h3,h4,h5,_,_,h8⟩:=g;exact⟨h.len,by have:=h.a0;omega,h4,by rw[h5];exact h.d0,by rw[h5];exact h.d1,h8⟩
theorem acy (hf:ZZ rec l)(s:Int)(hs:1<=s)(r:Nat):∀(m:Nat) (st:St),BD l st->jCl rec (.dW dJ l) s r m st.x.length st=Tx (.dW dJ l) (mj l (rec l) s m st)
 |0,st,_=>rfl
 |m+1,⟨a,d,x,e,f⟩,h=>by
  have hlen:=h.len;have ha0:=h.a0;simp only at ha0;rw[show (⟨a,d,x,e,f⟩:St).x.length=x.length from rfl,ae1,getI_at?];unfold mj;cases jw:at? l a with
  |none =>
   have hge:(l.length:Int)<=a:=by
    unfold at? at jw;split at jw
    .rename_i n;have:=gi.1 jw;simp;omega
    omega
   rw[fG hge];rfl
  |some t =>
   have hlt:=jh jw;rw[pL hlt.2];show ah (bB (Px.bin t).2 s) _ _=_;simp only;rw[cG];by_cases hb:(Px.bin t).2<s
   .rw[ag hb,ag hb];rfl
   rw[aa hb,aa hb];have hbo:=V5 (t:=t) (by omega);have hbd:BD l ⟨a+1,d,x,e,f⟩:=⟨hlen,by show 0<=a+1;omega,by show a+1<=_;omega,h.d0,h.d1,h.x⟩;rw[i64_in (n:=(Px.bin t).2+1) (by omega) (by omega),i64_in (n:=a+1) (by omega) (by omega),LK hbd (by omega) (by omega),Wc];refine bind_congr λo ho=>?_
   have hg:=hbd.grown (hf _ _ _ (by omega) hbd ho);have hx:=h.x;simp only at hx;have hox:=hg.x;rw[i64_in (n:=(x.length:Int)-1) (by omega) (by omega),i64_in (n:=(o.x.length:Int)-1) (by omega) (by omega)];refine EL (l:=l) hg λhne=>?_
   have:=acy hf s hs r m { o with x:=o.x++[((Px.bin t).1,0,[],(x.length:Int)-1,(o.x.length:Int)-1)] } ⟨hg.len,hg.a0,hg.a1,hg.d0,hg.d1,by show (o.x++[_]).length<=200;simp;omega⟩;rw[show ({ o with x:=o.x++[((Px.bin t).1,0,[],(x.length:Int)-1,(o.x.length:Int)-1)] }:St).x.length=o.x.length+1 by simp]at this;exact this
theorem Wg (hf:ZZ rec l){K:St->Nat->sI}{K':St->mO}(hK:∀o,BD l o->K o o.x.length=Tx (.dW dJ l) (K' o)){st:St}(h:BD l st){t:Tok}(jw:at? l st.a=some t):Wb rec l st K t=Tx (.dW dJ l) (ri bX l (rec l) st K'):=by
 have hlen:=h.len;have ha0:=h.a0;have hlt:=jh jw;have hx:=h.x;have hd0:=h.d0;have hd1:=h.d1;unfold Wb ri;rw[jw];simp only;cases ho:BG bX t with
 |some n =>
  show GS _ _ _ _ _ _=_;rw[i64_in (n:=st.a+1) (by omega) (by omega)];refine EL (l:=l) (st:={ st with a:=st.a+1 }) ⟨hlen,by show 0<=st.a+1;omega,by show st.a+1<=_;omega,hd0,hd1,hx⟩ λhne=>?_
  have hne:st.x.length≠200:=hne;have:=hK { st with a:=st.a+1,x:=st.x++[n] } ⟨hlen,by show 0<=st.a+1;omega,by show st.a+1<=_;omega,hd0,hd1,by show (st.x++[n]).length<=200;simp;omega⟩;rw[show ({ st with a:=st.a+1,x:=st.x++[n] }:St).x.length=st.x.length+1 by simp]at this;exact this
 |none =>
  show ah (pref t).isSome _ _=_;simp only;have inner:∀(s:Int),1<=s->s<=7->∀(q:St->sI) (q':St->mO),(∀o,BD l o->o.d=st.d+1->q o=Tx (.dW dJ l) (q' o))->GU (.dW dJ l) st (λs1=>GP rec (.dW dJ l) l s s1 q) st.x.length=Tx (.dW dJ l) (sG st λs1=>Ol (rec l s s1) q'):=λs h1 h7 q q' hq=>by
   refine We (l:=l) h hlt.2 λhne=>?_
   have hbd:BD l { st with d:=st.d+1,a:=st.a+1 }:=⟨hlen,by show 0<=st.a+1;omega,by show st.a+1<=_;omega,by show 0<=st.d+1;omega,by show st.d+1<=50;omega,hx⟩;rw[LK hbd h1 h7,Wc];refine bind_congr λo hr=>?_
   have hg:=hf _ _ _ h1 hbd hr;refine hq o (hbd.grown hg) ?_;obtain⟨_,_,_,_,_,h5,_⟩:=hg;exact h5
  cases hp:pref t with
  |some op =>
   show GU _ _ _ _=_;simp only;refine inner 7 (by decide) (by decide) _ _ λo hbo hod=>?_
   have hox:=hbo.x;have Sw:BD l { o with d:=o.d-1 }:=⟨hlen,hbo.a0,hbo.a1,by show 0<=o.d-1;omega,by show o.d-1<=50;omega,hox⟩;show ah (!bI op 0) _ _=_;rw[cX,i64_in (n:=o.d-1) (by omega) (by omega),i64_in (n:=(o.x.length:Int)-1) (by omega) (by omega)];by_cases h0:op=0
   .rw[ag h0,ag h0];exact hK _ Sw
   rw[aa h0,aa h0];refine EL (l:=l) (st:={ o with d:=o.d-1 }) Sw λhne=>?_
   have hne:o.x.length≠200:=hne;have:=hK { o with d:=o.d-1,x:=o.x++[(op,0,[],(o.x.length:Int)-1,0)] } ⟨hlen,Sw.a0,Sw.a1,Sw.d0,Sw.d1,by show (o.x++[_]).length<=200;simp;omega⟩;rw[show ({ o with d:=o.d-1,x:=o.x++[(op,0,[],(o.x.length:Int)-1,0)] }:St).x.length=o.x.length+1 by simp]at this;exact this
  |none =>
   show ah (sgT t [40]) _ _=_;rw[Wf,av];by_cases h40:pJ t [40]=true
   .rw[ag h40];simp only[h40,fD];refine inner 1 (by decide) (by decide) _ _ λo hbo hod=>?_
    have hoa:=hbo.a0;have hol:=hbo.a1;rw[getI_at?];cases Z0:at? l o.a with
    |none =>
     have hge:(l.length:Int)<=o.a:=by
      unfold at? at Z0;split at Z0
      .rename_i n hn;have:=gi.1 Z0;rw[hn];simp;omega
      rename_i hn;rw[hn]at hoa;omega
     rw[fG hge];rfl
    |some c =>
     have aeZ:=jh Z0;rw[pL aeZ.2];show ah (!sgT c [41]) _ _=_;simp only;rw[Wf,i64_in (n:=o.d-1) (by omega) (by omega),i64_in (n:=o.a+1) (by omega) (by omega)];cases pJ c [41] with
     |true=>exact hK { o with d:=o.d-1,a:=o.a+1 } ⟨hlen,by show 0<=o.a+1;omega,by show o.a+1<=_;omega,by show 0<=o.d-1;omega,by show o.d-1<=50;omega,hbo.x⟩
     |false=>rfl
   rw[aa h40];simp only[h40];rfl
end
theorem akc {rec:List Tok->Int->St->mO}{l:List Tok}(hf:ZZ rec l){st:St}(h:BD l st){s:Int}(hs:1<=s) :
 aT X0 (cC rec GN) V9 (l.length+1) 125 [.ptr 0 0,.int .i64 s] (jg 173 6 (Wa (.dW dJ l) st.a st.d st.e st.f st.x s)) kR=Tx (.dW dJ l) (ri bX l (rec l) st (mj l (rec l) s (l.length+1))):=by
 obtain⟨a,d,x,e,f⟩:=st;rw[ZY,getI_at?];cases jw:at? l a with
 |none =>
  have ha0:=h.a0;simp only at ha0;have hge:(l.length:Int)<=a:=by
   unfold at? at jw;split at jw
   .rename_i n;have:=gi.1 jw;simp;omega
   omega
  rw[fG hge];unfold ri;simp only[jw];rfl
 |some t =>
  have hlt:=jh jw;rw[pL hlt.2];exact Wg hf (λo ho=>acy hf s hs _ _ o ho) h jw
set_option maxRecDepth 100000 in
theorem Wh (rec:List Tok->Int->St->mO)(s:Int)(r:Nat)(a d e f:Int)(x:List Nd) :
 aT X0 (cC rec GN) V9 r 125 [.ptr 0 0,.int .i64 s] (jg 173 6 (Wa .dg a d e f x s)) kR=ah (!bB a 0) (BJ false .dg ⟨a,d,x,4,a⟩ x.length) none:=by kernel_rfl
theorem acA {rec:List Tok->Int->St->mO}{L:AV}(hL:FN L=true){a d e f s:Int}{x:List Nd}(hN:iB X0 gW 125 (cCl rec)){r:Nat}{b:Bool}{st:St}
 (h:aT X0 (cC rec GN) V9 r 125 [.ptr 0 0,.int .i64 s] (jg 173 6 (Wa L a d e f x s)) kR=BJ b L st st.x.length) :
 ∃vs M1 cs1,CI X0 gW 125 [.ptr 0 0,.int .i64 s] (jg 173 6 (Wa L a d e f x s)) vs M1/\M1.get 0=some (.cells 173 cs1)/\cs1.length=6 /\
  qR M1 [0] (cs1++vs) [.val L,.val (.int .i64 st.a),.val (.int .i64 st.d),.list 89 fL st.x,.val (.int .i64 st.e),.val (.int .i64 st.f),.val (.bool b)]:=by
 obtain⟨v,M1,h1,h2⟩:=og (λargs=>lt.bS rfl args) (kA GI (.cons hN .nil) GN) h;unfold kR at h1;split at h1
 .rename_i t c0 c1 c2 c3 c4 c5 hg;split at h1
  .rename_i id n;rw[av]at h1;split at h1
   .rename_i ht;obtain rfl:=aZ ht;simp only[aq,ax,List.cons.injEq,and_true]at h1;obtain⟨rfl,⟨rfl,rfl,rfl,rfl,rfl⟩,rfl,hrow⟩:=h1;refine⟨[.bool b],M1,_,h2 [.bool b] rfl,hg,rfl,rfl,hL,rfl,rfl,rfl,rfl,.inl ⟨id,0,false,rfl,hrow,?_,rfl,rfl,rfl,rfl,rfl,rfl,trivial⟩⟩;intro hm;have:id=0:=by simpa using hm
    subst this;rw[hg]at hrow;cases hrow
   cases h1
  cases h1
 cases h1
theorem On (k:Nat)(l:List Tok):ZZ (λl=>eK bX l k) l:=λs st o h1 hb hr=>lB l k s st o h1 hb.x hb.a1 hr
theorem I8:∀k:Nat,iB X0 gW 125 (cCl λl=>eK bX l k)
 |0=>by
  intro ins outs rs hg;exfalso;have hg:gCl (λl=>eK bX l 0) ins=some (true,outs,rs):=hg;unfold gCl at hg;split at hg
  .split at hg
   .simp[eK]at hg
   cases hg
  cases hg
 |k+1=>by
  intro ins outs rs hg;have hg:gCl (λl=>eK bX l (k+1)) ins=some (true,outs,rs):=hg;unfold gCl at hg;split at hg;case h_2=>cases hg
  rename_i L a d t0 t x e f s _;split at hg;case h_2=>cases hg
  rename_i l x' hl hx;obtain⟨rfl,hx2⟩:=bT hx;have hx2:x=x':=hx2;subst hx2;simp only[aq,ax,ak,aS]at hg;obtain⟨⟨⟨⟨⟨⟨⟨⟨⟨⟨g0,g1⟩,g2⟩,g3⟩,g4⟩,g5⟩,g6⟩,g7⟩,g8⟩,g9⟩,rfl,rfl⟩:=hg;obtain rfl:=aZ g0;have I9:∀{p q:Int},bB p q=false->q<=p:=λ{p q} h=>by rw[cB]at h;simpa using h
  have hbd:BD l ⟨a,d,x,e,f⟩:=⟨az g1,I9 g2,I9 g3,I9 g4,I9 g5,az g6⟩;obtain⟨⟨b,st⟩,hr⟩:=bV.1 g9;rw[hr];have hc:eK bX l (k+1) s ⟨a,d,x,e,f⟩=ri bX l (eK bX l k) ⟨a,d,x,e,f⟩ (mj l (eK bX l k) s (l.length+1)):=rfl;cases L with
  |dW e' l0 =>
   obtain⟨rfl,CA⟩:=bT hl;have CA:l0=l:=CA;subst CA;have hrun:=akc (rec:=λl=>eK bX l k) (On k l0) hbd (I9 g7);rw[<-hc,hr]at hrun;exact λ_ _=>acA rfl (I8 k) hrun
  |dg =>
   have hl:some []=some l:=hl;cases hl;have ha:a=0:=by have:=hbd.a0;have:=hbd.a1;simp only[bD]at *;omega
   subst ha;have hrun:=Wh (λl=>eK bX l k) s 5 0 d e f x;have Yy:(false,(⟨0,d,x,4,0⟩:St))=(b,st):=bL (hc.symm.trans hr);cases Yy;exact λ_ _=>acA rfl (I8 k) hrun
  |_=>cases hl
def vk (v:AV)(H:aH):Option (AV×Option Row) :=
 match v with
 |.fH (.own i _::_)=>some (v,H.get i)
 |.own i _=>some (v,H.get i)
 |_=>some (v,none)
theorem EN {v:AV}{H:aH}{r:AV×Option Row}(h:vk v H=some r):v=r.1:=by
 unfold vk at h;split at h<;>(cases h;rfl)
def bq (l:List Tok)(a:Int):List Nd×Int×Int×Int:=(qc bX l a).getD ([],0,0,0)
def EO (e f:Int):Option (AV×Option Row):=some (.fH [.dg,.int .i64 0,.agg [.int .i64 e,.int .i64 f]],none)
def EP (x:List Nd)(n:Nat)(a:Int):Option (AV×Option Row):=some (.fH [.own 2 n,.int .i64 a,.agg [.int .i64 0,.int .i64 0]],some (.list 89 fL x 0 false false))
abbrev cM (M:List xX)(rec:List Tok->Int->St->mO)(β:Type):cI β:=cN M (N1 rec) β
set_option maxRecDepth 100000 in
theorem Z1 (rec:List Tok->Int->St->mO)(l:List Tok)(a:Int)(r:Nat):aT X0 (cM M5 rec _) ia r 83 [.dW dJ l,.int .i64 a] aH.empty vk =
 ah (bB a 0) (EO 2 0) (ah (bB l.length a) (EO 2 0) (ah (Om rec l 1 ⟨a,0,[],0,0⟩&&true) (ah (!(eF rec l 1 ⟨a,0,[],0,0⟩).1) (EO (eF rec l 1 ⟨a,0,[],0,0⟩).2.e (eF rec l 1 ⟨a,0,[],0,0⟩).2.f)
  (EP (eF rec l 1 ⟨a,0,[],0,0⟩).2.x (eF rec l 1 ⟨a,0,[],0,0⟩).2.x.length (eF rec l 1 ⟨a,0,[],0,0⟩).2.a)) none)):=by kernel_rfl
def gPs (args:List AV):Option (Bool×List fN) :=
 match args with
 |[L,.int .i64 a]=>match I7 dJ L with
  |some l=>some (Nat.ble l.length 2000000,[.list 89 fL (bq l a).1,.val (.int .i64 (bq l a).2.1),.val (.agg [.int .i64 (bq l a).2.2.1,.int .i64 (bq l a).2.2.2])])
  |none=>none
 |_=>none
theorem rW {e:Ty}{a:AV}{l:List e.den}(h:I7 e a=some l):a = .dW e l\/(a = .dg/\l=[]):=by
 unfold I7 at h;split at h
 .obtain ⟨he,h2⟩:=bT h;subst he;have h2:_=l:=h2;subst h2;exact .inl rfl
 .cases h;exact .inr ⟨rfl,rfl⟩
 cases h
theorem Wl (rec:List Tok->Int->St->mO)(a:Int)(r:Nat):aT X0 (cM M5 rec _) ia r 83 [.dg,.int .i64 a] aH.empty vk =
 ah (bB a 0) (EO 2 0) (ah (bB 0 a) (EO 2 0) (ah (Om rec [] 1 ⟨a,0,[],0,0⟩&&true) (ah (!(eF rec [] 1 ⟨a,0,[],0,0⟩).1) (EO (eF rec [] 1 ⟨a,0,[],0,0⟩).2.e (eF rec [] 1 ⟨a,0,[],0,0⟩).2.f)
  (EP (eF rec [] 1 ⟨a,0,[],0,0⟩).2.x (eF rec [] 1 ⟨a,0,[],0,0⟩).2.x.length (eF rec [] 1 ⟨a,0,[],0,0⟩).2.a)) none)):=by kernel_rfl
theorem ae2:dh X0 gW 83 gPs:=by
 intro args rs hg;unfold gPs at hg;split at hg;case h_2=>cases hg
 rename_i L a;split at hg;case h_2=>cases hg
 rename_i l hl;simp only[aq,ax]at hg;obtain⟨hb,rfl⟩:=hg;have hb:=az hb;have hrun:aT X0 (cM M5 (λl0=>eK bX l0 (l.length+1)) _) ia 5 83 [L,.int .i64 a] aH.empty vk =
  if (bq l a).2.2.1=0 then EP (bq l a).1 (bq l a).1.length (bq l a).2.1 else EO (bq l a).2.2.1 (bq l a).2.2.2:=by
  have e:aT X0 (cM M5 (λl0=>eK bX l0 (l.length+1)) _) ia 5 83 [L,.int .i64 a] aH.empty vk =
   ah (bB a 0) (EO 2 0) (ah (bB l.length a) (EO 2 0) (ah (Om (λl0=>eK bX l0 (l.length+1)) l 1 ⟨a,0,[],0,0⟩&&true) (ah (!(eF (λl0=>eK bX l0 (l.length+1)) l 1 ⟨a,0,[],0,0⟩).1) (EO (eF (λl0=>eK bX l0 (l.length+1)) l 1 ⟨a,0,[],0,0⟩).2.e (eF (λl0=>eK bX l0 (l.length+1)) l 1 ⟨a,0,[],0,0⟩).2.f)
    (EP (eF (λl0=>eK bX l0 (l.length+1)) l 1 ⟨a,0,[],0,0⟩).2.x (eF (λl0=>eK bX l0 (l.length+1)) l 1 ⟨a,0,[],0,0⟩).2.x.length (eF (λl0=>eK bX l0 (l.length+1)) l 1 ⟨a,0,[],0,0⟩).2.a)) none)):=by
   rcases rW hl with rfl|⟨rfl,rfl⟩
   .exact Z1 _ l a 5
   exact Wl _ a 5
  rw[e,cG,cG];have key:∀r,qc bX l a=some r->bq l a=r:=λr h=>by unfold bq;rw[h];rfl
  by_cases h1:a<0
  .rw[ag h1,key ([],0,2,0) (by unfold qc;rw[ag (Or.inl h1)])];rfl
  rw[aa h1];by_cases h2:(l.length:Int)<a
  .rw[ag h2,key ([],0,2,0) (by unfold qc;rw[ag (Or.inr h2)])];rfl
  rw[aa h2];have hno:¬(a<0\/(l.length:Int)<a):=by omega
  have hbd:BD l ⟨a,0,[],0,0⟩:=⟨hb,by show 0<=a;omega,by show a<=_;omega,bx 0,by show (0:Int)<=50;decide,by simp⟩;obtain⟨⟨b,st⟩,hr⟩:=sH (nm:=bX) l (l.length+1) 1 ⟨a,0,[],0,0⟩ (by decide) (by simp) hbd.a0 hbd.a1 (by show _-a<_;omega);unfold Om eF;rw[ee hb,fG hbd.a0,fG hbd.a1,fG hbd.d0,fG hbd.d1,ee hbd.x];simp only[hr];cases b with
  |true=>rw[key (st.x,st.a,0,0) (by unfold qc;rw[aa hno,hr])];rfl
  |false =>
   have hne:=Dd l _ _ _ st hr;rw[key ([],0,st.e,st.f) (by unfold qc;rw[aa hno,hr])];simp only;rw[aa hne];rfl
 obtain⟨r,hr⟩:=vl (nm:=bX) l a;by_cases h0:(bq l a).2.2.1=0
 .rw[ag h0]at hrun;unfold EP at hrun;obtain⟨v,M1,h1,h2⟩:=og (λargs=>lt.bS rfl args) (kA GI (.cons (I8 (l.length+1)) .nil) (AV×Option Row)) hrun;have hv:=EN h1;subst hv;refine⟨_,M1,h2 [.own 2 (bq l a).1.length,.int .i64 (bq l a).2.1,.agg [.int .i64 0,.int .i64 0]] rfl,rfl,.inl ⟨2,0,false,rfl,?_,by simp,rfl,rfl,?_,rfl,trivial⟩⟩
  .exact (jI (bL h1)).2
  have hz:(bq l a).2.2.2=0:=by
   unfold bq at h0 ⊢;rw[hr]at h0 ⊢;unfold qc at hr;split at hr
   .cases hr;exact absurd h0 (by decide)
   split at hr
   .cases hr;rfl
   .rename_i st hc;cases hr;exact absurd h0 (Dd l _ _ _ st hc)
   cases hr
  rw[h0,hz]
 rw[aa h0]at hrun;unfold EO at hrun;obtain⟨v,M1,h1,h2⟩:=og (λargs=>lt.bS rfl args) (kA GI (.cons (I8 (l.length+1)) .nil) (AV×Option Row)) hrun;have hv:=EN h1;subst hv;have hz:(bq l a).1=[]/\(bq l a).2.1=0:=by
  unfold bq at h0 ⊢;rw[hr]at h0 ⊢;exact(LM (nm:=bX) (l:=l) (a:=a) hr).1 h0
 refine⟨_,M1,h2 [.dg,.int .i64 0,.agg [.int .i64 (bq l a).2.2.1,.int .i64 (bq l a).2.2.2]] rfl,rfl,.inr ⟨rfl,hz.1,?_,rfl,rfl,rfl,trivial⟩⟩;rw[hz.2]
def M6:List xX:=(83,[some dJ,none],gPs)::M5
theorem wS:jx X0 gW M6:=.cons ae2 GI
end
end Go.Proofs.YtfggompceldfgaaGreatDoor.ex
